/-
  Texts of the proof, put together: LvL, LvM, LvN, LvO, LvP, LrA, LdA, LdB, LdC, LdD, LdE, LdF, LdG, LdH, LdI, LdJ, LdK, LtA, LrB, LtB, LtD, LeA, LeB, LwEvDecodes.
-/
import Derived.Test.YtpmiamphppcfeaaGreatDoorED5
/-
 The reference's text of a whole value; its check. Plain laws.
-/
namespace Go.Proofs.YtpmiamphppcfeaaGreatDoor
open Go
set_option linter.unusedVariables false
set_option linter.unusedSimpArgs false
section
variable {M : Nat} {v : List TApiCell}
theorem ov_some {α : Type} [Inhabited α] (a : α) : ov (some a) = a := rfl
theorem key_at {at_ : Int} {k : Option Str} {r : List TApiCell} (h0 : 0 ≤ at_) (hA : CkA M v) {F : Nat} (hF : M < F) (hd : v.drop at_.toNat = keyC k ++ r) : ∀ s, k = some s → (at' v at_).fStr = s ∧ s.length < F ∧ s.length ≤ 1152921504606846976 := fun s e => by
 subst e
 have hd' : v.drop at_.toNat = ⟨4, 0, s, 0⟩ :: r := by simpa [keyC] using hd
 have h1 := at_drop h0 hd'
 have h2 := (hA.hc _ (List.mem_of_getElem? (drop_get h0 hd').1)).1
 have hM := hA.hM
 simp only at h2
 exact ⟨by rw [h1], by omega, by omega⟩
theorem rTxt_forest (hA : CkA M v) : ∀ (g : Fo) (F L : Nat) (i at_ x : Int) (out : Str) (m : Bool) (last : Option Str) (ys : List TApiCell) (pc : TApiCell), at' v i = pc → decide (pc.fKind = 6) = m → pc.fN ≤ 9223372036854775807 → g.wf m last = true → v.drop at_.toNat = g.flat ++ ys → 0 ≤ at_ → at_ ≤ v.length → pc.fN = x + g.cnt → 0 ≤ x → (out ++ g.txt (decide (x = 0))).length ≤ 4611686018427387904 → g.cnt < L → 3 * M + 5 + g.flat.length < F →
  ∃ o, lop (fun σ => rText_b1 F v i (rText F) σ.1 σ.2.1 σ.2.2) L (out, at_, x) = some o ∧ oute (fun ν => rText_k1 v i ν) o = some (brk pc (out ++ g.txt (decide (x = 0)))) := by
 have hM := hA.hM; have hvM := hA.hv
 intro g
 induction g with
 | nil =>
  intro F L i at_ x out m last ys pc hpc hm hpN hw hd h0 h1 hN hx hlen hL hF
  obtain ⟨L, rfl⟩ : ∃ K, L = K + 1 := ⟨L - 1, by omega⟩
  have hgo : rText_b1 F v i (rText F) out at_ x = some (.out (.go out)) := by
   simp only [Fo.cnt] at hN
   unfold rText_b1
   rw [hpc, cnd_ff (decide_eq_false (by omega))]
  refine ⟨.go out, lop_o hgo, ?_⟩
  simp only [Fo.txt, List.append_nil] at hlen ⊢
  rw [oute_go, rText_k hpc hlen]
 | cell k c r ih =>
  intro F L i at_ x out m last ys pc hpc hm hpN hw hd h0 h1 hN hx hlen hL hF
  simp only [Fo.wf, Bool.and_eq_true, Bool.not_eq_true'] at hw
  obtain ⟨⟨⟨w1, w2⟩, w3⟩, w4⟩ := hw
  simp only [Fo.flat, List.append_assoc, List.cons_append] at hd
  simp only [Fo.cnt] at hN hL
  simp only [Fo.flat, List.length_append, List.length_cons] at hF
  obtain ⟨L, rfl⟩ : ∃ K, L = K + 1 := ⟨L - 1, by omega⟩
  obtain ⟨F, rfl⟩ : ∃ K, F = K + 2 := ⟨F - 2, by omega⟩
  have hd1 := drop_app h0 hd
  have hkl := key_len w1
  obtain ⟨g1, g2, g3⟩ := drop_get (by omega) hd1
  have hcM := hA.hc c (List.mem_of_getElem? g1)
  have hp : at_ + (keyC k).length = bif m then at_ + 1 else at_ := by rw [hkl]; cases m <;> simp
  have hq := hA.next (F := F + 2) (by omega) (p := at_ + (keyC k).length) (by omega) (by omega)
  rw [nxt_of (f := .cell none c .nil) (ys := r.flat ++ ys) rfl (wf_leaf w2 w3) hd1] at hq
  have e : out ++ (Fo.cell k c r).txt (decide (x = 0)) = (out ++ (sepT (decide (x = 0)) ++ ktx k ++ leafT c)) ++ r.txt (decide (x + 1 = 0)) := by
   rw [decide_eq_false (show ¬ x + 1 = 0 by omega)]; simp [Fo.txt]
  rw [e] at hlen ⊢
  have hl2 : ((out ++ (sepT (decide (x = 0)) ++ ktx k ++ leafT c)).length : Int) ≤ 4611686018427387904 := by rw [List.length_append] at hlen; omega
  have hat : at_ < v.length := by omega
  have hb := rTxt_body hpc hm (by omega) hx hpN h0 hat (by omega) w1 (key_at h0 hA (F := F + 2) (by omega) hd) hp (rText_leaf (F := F) (by omega) (by omega) hd1 w2 w3 (by omega) (by omega) hcM.2.1) hq hl2
  obtain ⟨o, ho1, ho2⟩ := ih (F + 2) L i (at_ + (keyC k).length + ((Fo.cell none c .nil).flat.length : Int)) (x + 1) (out ++ (sepT (decide (x = 0)) ++ ktx k ++ leafT c)) m k ys pc hpc hm hpN w4 (by rw [show (Fo.cell none c .nil).flat.length = 1 from rfl]; exact g2) (by omega) (by rw [show (Fo.cell none c .nil).flat.length = 1 from rfl]; omega) (by omega) (by omega) hlen (by omega) (by omega)
  exact ⟨o, lop_n hb ho1, ho2⟩
 | node k c kids r ihk ih =>
  intro F L i at_ x out m last ys pc hpc hm hpN hw hd h0 h1 hN hx hlen hL hF
  simp only [Fo.wf, Bool.and_eq_true, decide_eq_true_eq] at hw
  obtain ⟨⟨⟨⟨⟨w1, w2⟩, w3⟩, w5⟩, w6⟩, w4⟩ := hw
  simp only [Fo.flat, List.append_assoc, List.cons_append] at hd
  simp only [Fo.cnt] at hN hL
  simp only [Fo.flat, List.length_append, List.length_cons] at hF
  obtain ⟨L, rfl⟩ : ∃ K, L = K + 1 := ⟨L - 1, by omega⟩
  obtain ⟨F, rfl⟩ : ∃ K, F = K + 1 := ⟨F - 1, by omega⟩
  have hd1 := drop_app h0 hd
  have hkl := key_len w1
  obtain ⟨g1, g2, g3⟩ := drop_get (by omega) hd1
  have hcN := (hA.hc c (List.mem_of_getElem? g1)).2.2
  have hp : at_ + (keyC k).length = bif m then at_ + 1 else at_ := by rw [hkl]; cases m <;> simp
  have hq := hA.next (F := F + 1) (by omega) (p := at_ + (keyC k).length) (by omega) (by omega)
  have hfl : (Fo.node none c kids .nil).flat = c :: kids.flat := by simp [Fo.flat, keyC]
  rw [nxt_of (f := .node none c kids .nil) (ys := r.flat ++ ys) rfl (wf_node w2 w3 w5 w6) (by rw [hd1, hfl]; simp)] at hq
  have hcf := cnt_le_flat kids
  have hvl : (v.drop (at_ + (keyC k).length + 1).toNat).length = kids.flat.length + (r.flat.length + ys.length) := by rw [g2]; simp
  rw [List.length_drop] at hvl
  have e : out ++ (Fo.node k c kids r).txt (decide (x = 0)) = (out ++ (sepT (decide (x = 0)) ++ ktx k ++ brk c (kids.txt true))) ++ r.txt (decide (x + 1 = 0)) := by
   rw [decide_eq_false (show ¬ x + 1 = 0 by omega)]; simp [Fo.txt]
  rw [e] at hlen ⊢
  have hl2 : ((out ++ (sepT (decide (x = 0)) ++ ktx k ++ brk c (kids.txt true))).length : Int) ≤ 4611686018427387904 := by rw [List.length_append] at hlen; omega
  have hl3 : (kids.txt true).length ≤ 4611686018427387904 := by
   have := brk_len c (kids.txt true)
   rw [List.length_append, List.length_append] at hl2; omega
  have hat : at_ < v.length := by omega
  have hrec : rText (F + 1) v (at_ + (keyC k).length) = some (brk c (kids.txt true)) := by
   rw [rText]
   unfold rTextm
   have hk56 := (pl_node w2 w3).1
   rw [chk_inR (by omega) g3, at_drop (by omega) hd1, cnd_ff (decide_eq_false (by omega)), cnd_ff (decide_eq_false (by omega)), cnd_ff (decide_eq_false (by omega)), cnd_ff (decide_eq_false (by omega)), chk_i64 (by omega) (by omega)]
   obtain ⟨o, ho1, ho2⟩ := ihk F F (at_ + (keyC k).length) (at_ + (keyC k).length + 1) 0 [] _ none (r.flat ++ ys) c (at_drop (by omega) hd1) rfl hcN w6 (by rw [g2]) (by omega) (by omega) (by omega) (Int.le_refl 0) hl3 (by omega) (by omega)
   rw [obn_s ho1, ho2]; rfl
  have hb := rTxt_body hpc hm (by omega) hx hpN h0 hat (by omega) w1 (key_at h0 hA (F := F + 1) (by omega) hd) hp hrec hq hl2
  obtain ⟨o, ho1, ho2⟩ := ih (F + 1) L i (at_ + (keyC k).length + ((Fo.node none c kids .nil).flat.length : Int)) (x + 1) (out ++ (sepT (decide (x = 0)) ++ ktx k ++ brk c (kids.txt true))) m k ys pc hpc hm hpN w4 (by
   have := drop_app (by omega) g2
   rw [hfl, List.length_cons, show at_ + (keyC k).length + ((kids.flat.length + 1 : Nat) : Int) = at_ + (keyC k).length + 1 + kids.flat.length from by omega]; exact this) (by omega) (by rw [hfl, List.length_cons]; omega) (by omega) (by omega) hlen (by omega) (by omega)
  exact ⟨o, lop_n hb ho1, ho2⟩
theorem rText_eq (hA : CkA M v) {F : Nat} {p : Int} {f : Fo} {ys : List TApiCell} (h0 : 0 ≤ p) (h1 : f.one = true) (hw : f.wf false none = true) (hd : v.drop p.toNat = f.flat ++ ys) (hF : 3 * M + 6 + f.flat.length < F) (hlen : (f.txt true).length ≤ 4611686018427387904) : rText F v p = some (f.txt true) := by
 have hM := hA.hM; have hvM := hA.hv
 cases f with
 | nil => cases h1
 | cell k c r =>
  cases k with
  | some s => cases h1
  | none =>
   cases r with
   | nil =>
    simp only [Fo.wf, Bool.and_eq_true, Bool.not_eq_true'] at hw
    obtain ⟨F, rfl⟩ : ∃ K, F = K + 2 := ⟨F - 2, by omega⟩
    have hd' : v.drop p.toNat = c :: ys := by simpa [Fo.flat, keyC] using hd
    have hcM := hA.hc c (List.mem_of_getElem? (drop_get h0 hd').1)
    rw [rText_leaf h0 (by have := (drop_get h0 hd').2.2; omega) hd' hw.1.1.2 hw.1.2 (by omega) (by omega) hcM.2.1]; simp [Fo.txt, sepT, ktx]
   | cell _ _ _ => cases h1
   | node _ _ _ _ => cases h1
 | node k c kids r =>
  cases k with
  | some s => cases h1
  | none =>
   cases r with
   | nil =>
    simp only [Fo.wf, Bool.and_eq_true, decide_eq_true_eq] at hw
    obtain ⟨⟨⟨⟨⟨w1, w2⟩, w3⟩, w5⟩, w6⟩, w4⟩ := hw
    have hd' : v.drop p.toNat = c :: (kids.flat ++ ys) := by simpa [Fo.flat, keyC] using hd
    obtain ⟨g1, g2, g3⟩ := drop_get h0 hd'
    have hcN := (hA.hc c (List.mem_of_getElem? g1)).2.2
    have hcf := cnt_le_flat kids
    simp only [Fo.flat, keyC, List.nil_append, List.append_nil, List.length_cons] at hF
    have et : (Fo.node none c kids .nil).txt true = brk c (kids.txt true) := by simp [Fo.txt, sepT, ktx]
    rw [et] at hlen ⊢
    have hbl := brk_len c (kids.txt true)
    obtain ⟨F, rfl⟩ : ∃ K, F = K + 1 := ⟨F - 1, by omega⟩
    rw [rText]
    unfold rTextm
    have hk56 := (pl_node w2 w3).1
    rw [chk_inR h0 g3, at_drop h0 hd', cnd_ff (decide_eq_false (by omega)), cnd_ff (decide_eq_false (by omega)), cnd_ff (decide_eq_false (by omega)), cnd_ff (decide_eq_false (by omega)), chk_i64 (by omega) (by omega)]
    obtain ⟨o, ho1, ho2⟩ := rTxt_forest hA kids F F p (p + 1) 0 [] _ none ys c (at_drop h0 hd') rfl hcN w6 g2 (by omega) (by omega) (by omega) (Int.le_refl 0) (by show (kids.txt true).length ≤ _; omega) (by omega) (by omega)
    rw [obn_s ho1, ho2]; rfl
   | cell _ _ _ => cases h1
   | node _ _ _ _ => cases h1
theorem rCheck_l1 {F : Nat} {K : Option Int} (hF : v.length < F) (hv : v.length ≤ 1152921504606846976) : obn (lop (fun σ => rCheck_b1 v σ) F 0) (oute fun _ => K) = bif v.any outC then some 2 else K := by
 obtain ⟨o, h1, h2⟩ := lop_ind (body := fun σ => rCheck_b1 v σ) (fun x => 0 ≤ x ∧ x ≤ (v.length : Int) ∧ (v.take x.toNat).any outC = false) (fun x => v.length - x.toNat)
  (fun o => oute (fun _ => K) o = bif v.any outC then some 2 else K) (fun x ⟨h0, hl, ha⟩ => by
   by_cases hx : x < (v.length : Int)
   ·obtain ⟨c, hc⟩ : ∃ c, v[x.toNat]? = some c := ⟨v[x.toNat]'(by omega), List.getElem?_eq_getElem (by omega)⟩
    have hat : at' v x = c := by simp [at', hc]
    have ho : (decide (c.fKind = 3) && (decide (c.fInt < (-1000000000000)) || decide (1000000000000 < c.fInt))) = outC c := by
     unfold outC
     cases decide (c.fKind = 3) with
     | false => rfl
     | true =>
      rw [Bool.true_and, Bool.true_and, Bool.eq_iff_iff]
      simp only [Bool.or_eq_true, decide_eq_true_eq, Bool.not_eq_true', Bool.and_eq_false_iff, decide_eq_false_iff_not]; omega
    have hb : rCheck_b1 v x = cnd (outC c) (some (.out (.ret 2))) (some (.next (x + 1))) := by
     unfold rCheck_b1
     rw [cnd_tt (decide_eq_true hx), chk_inR h0 hx, hat, ho, chk_i64 (by omega) (by omega)]
    cases hq : outC c with
    | true =>
     refine .inr ⟨.ret 2, hb.trans (cnd_tt hq), ?_⟩
     have : v.any outC = true := List.any_eq_true.2 ⟨c, List.mem_of_getElem? hc, hq⟩
     rw [oute_ret, this]; rfl
    | false =>
     have a3 : (v.take (x + 1).toNat).any outC = false := by
      rw [show (x + 1).toNat = x.toNat + 1 from by omega, List.take_add_one, hc, List.any_append, ha]; simp [hq]
     exact .inl ⟨x + 1, hb.trans (cnd_ff hq), ⟨by omega, by omega, a3⟩, by omega⟩
   ·refine .inr ⟨.go (), by unfold rCheck_b1; rw [cnd_ff (decide_eq_false hx)], ?_⟩
    rw [show x.toNat = v.length from by omega, List.take_length] at ha
    rw [oute_go, ha]; rfl) F 0 ⟨Int.le_refl 0, by omega, by simp⟩ (by simpa using hF)
 rw [obn_s h1, h2]
theorem rCheck_l2 {F : Nat} {K : Option Int} (hF : v.length < F) (hv : v.length ≤ 1152921504606846976) : obn (lop (fun σ => rCheck_b2 v σ) F 0) (oute fun _ => K) = bif v.any longC then some 3 else K := by
 obtain ⟨o, h1, h2⟩ := lop_ind (body := fun σ => rCheck_b2 v σ) (fun x => 0 ≤ x ∧ x ≤ (v.length : Int) ∧ (v.take x.toNat).any longC = false) (fun x => v.length - x.toNat)
  (fun o => oute (fun _ => K) o = bif v.any longC then some 3 else K) (fun x ⟨h0, hl, ha⟩ => by
   by_cases hx : x < (v.length : Int)
   ·obtain ⟨c, hc⟩ : ∃ c, v[x.toNat]? = some c := ⟨v[x.toNat]'(by omega), List.getElem?_eq_getElem (by omega)⟩
    have hat : at' v x = c := by simp [at', hc]
    have hb : rCheck_b2 v x = cnd (longC c) (some (.out (.ret 3))) (some (.next (x + 1))) := by
     unfold rCheck_b2
     rw [cnd_tt (decide_eq_true hx), chk_inR h0 hx, hat, chk_i64 (by omega) (by omega)]; rfl
    cases hq : longC c with
    | true =>
     refine .inr ⟨.ret 3, hb.trans (cnd_tt hq), ?_⟩
     have : v.any longC = true := List.any_eq_true.2 ⟨c, List.mem_of_getElem? hc, hq⟩
     rw [oute_ret, this]; rfl
    | false =>
     have a3 : (v.take (x + 1).toNat).any longC = false := by
      rw [show (x + 1).toNat = x.toNat + 1 from by omega, List.take_add_one, hc, List.any_append, ha]; simp [hq]
     exact .inl ⟨x + 1, hb.trans (cnd_ff hq), ⟨by omega, by omega, a3⟩, by omega⟩
   ·refine .inr ⟨.go (), by unfold rCheck_b2; rw [cnd_ff (decide_eq_false hx)], ?_⟩
    rw [show x.toNat = v.length from by omega, List.take_length] at ha
    rw [oute_go, ha]; rfl) F 0 ⟨Int.le_refl 0, by omega, by simp⟩ (by simpa using hF)
 rw [obn_s h1, h2]
theorem formed_whole : decide (nxt v 0 = v.length) = (whole v).isSome := by
 unfold nxt whole
 rw [show v.drop (0 : Int).toNat = v from rfl]
 cases hp : prs1 v with
 | none => simp
 | some q =>
  obtain ⟨f, ys⟩ := q
  have h1 := (prs1_ok hp).1
  have hl : v.length = f.flat.length + ys.length := by rw [h1]; simp
  cases ys with
  | nil => simp at hl ⊢; omega
  | cons c r => simp at hl ⊢; omega
theorem rCheck_eq (hA : CkA M v) (hM : M ≤ 1000000) {F : Nat} (hF : 4 * M + 6 < F) : rCheck F v = some (errV v) := by
 have hvM := hA.hv
 unfold rCheck
 rw [rFormed_eq (hA.rf (Nat.lt_succ_self M)) (fun c hc => (hA.hc c hc).2.2) (by omega), obn_s rfl, formed_whole]
 unfold errV
 cases hwh : whole v with
 | none => rfl
 | some f =>
  obtain ⟨h1, h2, h3⟩ := whole_some hwh
  rw [cnd_ff (p := !(some f).isSome) rfl]
  change _ = some (errF f)
  have hl : v.length = f.flat.length := by rw [h1]
  have hc : ∀ c ∈ f.flat, c.fStr.length ≤ M ∧ inK .i64 c.fInt = true ∧ c.fN ≤ 9223372036854775807 := fun c hc => hA.hc c (by rw [h1]; exact hc)
  have hb := byt_bound hM h2 (by omega) hc
  have htl : ((f.txt true).length : Int) = f.byt := by rw [txt_len f false none true h2, one_cnt h3]; simp
  have hd0 : v.drop (0 : Int).toNat = f.flat ++ [] := by rw [List.append_nil]; exact h1
  rw [rCheck_l1 (by omega) (by omega)]
  unfold errF rCheck_k1
  rw [rLevels_eq hA (Int.le_refl 0) h3 h2 hd0 (by omega), chk_t (by simp [imp]), rCheck_l2 (by omega) (by omega)]
  unfold rCheck_k2
  rw [rText_eq hA (Int.le_refl 0) h3 h2 hd0 (by omega) (by omega), obn_s rfl]
  rw [ov_some, hl, ← h1]
  have a1 : decide ((200 : Int) < (v.length : Int)) = decide (200 < v.length) := by rw [Bool.eq_iff_iff]; simp; omega
  have a2 : decide ((8 : Int) < (f.dep : Int)) = decide (8 < f.dep) := by rw [Bool.eq_iff_iff]; simp; omega
  have a3 : decide ((4000 : Int) < ((f.txt true).length : Int)) = decide (4000 < (f.txt true).length) := by rw [Bool.eq_iff_iff]; simp; omega
  rw [a1, a2, a3]
  cases v.any outC <;> cases v.any longC <;> cases decide (200 < v.length) <;> cases decide (8 < f.dep) <;> cases decide (4000 < (f.txt true).length) <;> rfl
end
end Go.Proofs.YtpmiamphppcfeaaGreatDoor

/-
 value.Encode writes the text of a value. Plain laws.
-/
namespace Go.Proofs.YtpmiamphppcfeaaGreatDoor
open Go
set_option linter.unusedVariables false
set_option linter.unusedSimpArgs false
theorem chk_inA {α : Type} {n : Nat} {x : Option α} (h : n ≤ 140737488355328) : chk (inA 1 n) x = x := chk_t (decide_eq_true (by omega))
theorem bnd_s {α β : Type} (a : α) (k : α → Option β) : bnd a k = k a := rfl
theorem chk_u8 {α : Type} {n : Int} {x : Option α} (h : 0 ≤ n) (h' : n ≤ 255) : chk (inK .u8 n) x = x := chk_t (inK_u8' h h')
section
variable {M : Nat}
end
end Go.Proofs.YtpmiamphppcfeaaGreatDoor

/-
 value.Encode is the reference's. Plain laws.
-/
namespace Go.Proofs.YtpmiamphppcfeaaGreatDoor
open Go
set_option linter.unusedVariables false
set_option linter.unusedSimpArgs false
section
variable {M : Nat}
theorem app1_len (l : Str) (c : UInt8) : (l ++ [c]).length = l.length + 1 := by rw [List.length_append, List.length_singleton]
def encV (v : List TApiCell) : Str × Int := match whole v with
 | none => ([], 1)
 | some f => bif decide (errF f = 0) then (f.txt true, 0) else ([], errF f)
end
end Go.Proofs.YtpmiamphppcfeaaGreatDoor

/-
 Small functions of the laws of the package value. Plain laws.
-/
namespace Go.Proofs.YtpmiamphppcfeaaGreatDoor
open Go
set_option linter.unusedVariables false
set_option linter.unusedSimpArgs false
def smallV (v : List TApiCell) : Bool := !decide (300 < v.length) && v.all fun c => !decide (300 < c.fStr.length)
def okCell (c : TApiCell) : Bool := inK .i64 c.fKind && inK .i64 c.fInt && okS c.fStr && inK .i64 c.fN
theorem CkA.of {v : List TApiCell} (hs : smallV v = true) (hc : v.all okCell = true) : CkA 300 v := by
 unfold smallV at hs
 simp only [Bool.and_eq_true, Bool.not_eq_true', decide_eq_false_iff_not, List.all_eq_true] at hs hc
 refine ⟨by decide, by omega, fun c h => ?_⟩
 obtain h1 := hs.2 c h
 obtain h2 := hc c h
 unfold okCell at h2
 simp only [Bool.and_eq_true] at h2
 exact ⟨by omega, h2.1.1.2, (inK_i64 h2.2).2⟩
theorem imp_tt (a : Bool) : imp a true = true := by cases a <;> rfl
end Go.Proofs.YtpmiamphppcfeaaGreatDoor

/-
 What laws on value and its reference lean on. Plain laws.
-/
namespace Go.Proofs.YtpmiamphppcfeaaGreatDoor
open Go
set_option linter.unusedVariables false
set_option linter.unusedSimpArgs false
section
variable {M : Nat}
end
end Go.Proofs.YtpmiamphppcfeaaGreatDoor

/-
 Frames: fields packed into bytes and unpacked; program and reference alike. Plain laws.
-/
namespace Go.Proofs.YtpmiamphppcfeaaGreatDoor
open Go
set_option linter.unusedVariables false
set_option linter.unusedSimpArgs false
def encF (f : Str) : Str := UInt8.ofNat (f.length / 256) :: UInt8.ofNat (f.length % 256) :: f
def packS (l : List Str) : Str := UInt8.ofNat l.length :: l.flatMap encF
def okP (l : List Str) : Bool := decide (l.length ≤ 64) && l.all fun f => decide (f.length ≤ 4000)
theorem chk_inA16 {α : Type} {n : Nat} {x : Option α} (h : n ≤ 1000000000) : chk (inA 16 n) x = x := chk_t (decide_eq_true (by omega))
/-! ### Unpacked -/
def unpF : Nat → Str → List Str → List Str × Int
 | 0, s, acc => bif decide (s = []) then (acc, 0) else ([], 13)
 | n + 1, a :: b :: r, acc => bif decide (4000 < a.toNat * 256 + b.toNat) then ([], 13) else bif decide (r.length < a.toNat * 256 + b.toNat) then ([], 14) else unpF n (r.drop (a.toNat * 256 + b.toNat)) (acc ++ [r.take (a.toNat * 256 + b.toNat)])
 | n + 1, _, acc => ([], 14)
def unpV : Str → List Str × Int
 | [] => ([], 14)
 | c :: s => bif decide (64 < c.toNat) then ([], 13) else unpF c.toNat s []
theorem iOr8 (a b : UInt8) : iOr .i64 (iShl .i64 (a.toNat : Int) 8) (b.toNat : Int) = ((a.toNat * 256 + b.toNat : Nat) : Int) := by
 have ha := a.toNat_lt
 have hb := b.toNat_lt
 have e0 : iShl .i64 (a.toNat : Int) 8 = ((a.toNat * 256 : Nat) : Int) := by
  unfold iShl
  have e : min (8 : Int).toNat (IntKind.bits .i64) = 8 := by decide
  rw [e, IntKind.wrap_i64]; omega
 rw [e0]
 unfold iOr
 have h1 : (BitVec.ofInt (IntKind.bits .i64) ((a.toNat * 256 : Nat) : Int) ||| BitVec.ofInt (IntKind.bits .i64) (b.toNat : Int)).toNat = a.toNat * 256 + b.toNat := by
  rw [BitVec.toNat_or, BitVec.toNat_ofInt, BitVec.toNat_ofInt]
  have hbits : IntKind.bits .i64 = 64 := rfl
  rw [hbits]
  have e1 : (((a.toNat * 256 : Nat) : Int) % ((2 ^ 64 : Nat) : Int)).toNat = a.toNat * 256 := by omega
  have e2 : (((b.toNat : Nat) : Int) % ((2 ^ 64 : Nat) : Int)).toNat = b.toNat := by omega
  rw [e1, e2, show a.toNat * 256 = a.toNat <<< 8 from by rw [Nat.shiftLeft_eq]]
  rw [Nat.shiftLeft_add_eq_or_of_lt (by simpa using hb)]
 rw [h1, IntKind.wrap_i64]; omega
theorem bat0 (a : UInt8) (r : Str) : bat (a :: r) 0 = (a.toNat : Int) := rfl
theorem bat1 (a b : UInt8) (r : Str) : bat (a :: b :: r) 1 = (b.toNat : Int) := rfl
theorem fUnp_b (s : Str) (c : UInt8) (hs : bat s 0 = (c.toNat : Int)) : ∀ (k : Nat) (F : Nat) (t : Str) (acc : List Str) (z i : Int), k < F → i + k = (c.toNat : Int) → 0 ≤ i → acc.length ≤ 64 - k → k ≤ 64 → t.length ≤ 1000000000 →
  obn (lop (fun σ => fUnpack_b2 s σ.1 σ.2.1 σ.2.2.1 σ.2.2.2) F (t, acc, z, i)) (oute fun ν => fUnpack_k2 ν.1 ν.2) = some (unpF k t acc)
 | k, 0, t, acc, z, i, h, _, _, _, _, _ => by omega
 | 0, F + 1, t, acc, z, i, hF, hi, h0, ha, hk, ht => by
  rw [lop]
  have hb : fUnpack_b2 s t acc z i = some (.out (.go (t, acc))) := by
   unfold fUnpack_b2; rw [cnd_ff (decide_eq_false (by omega))]
  simp only [hb]
  show fUnpack_k2 t acc = _
  unfold fUnpack_k2 unpF
  cases h : decide (t = []) with
  | true => rw [cnd_ff (p := !true) rfl, chk_inC (by omega) (Int.le_refl _)]; simp
  | false => rfl
 | k + 1, F + 1, t, acc, z, i, hF, hi, h0, ha, hk, ht => by
  rw [lop]
  have hcc := c.toNat_lt
  match t, ht with
  | [], ht =>
   have hb : fUnpack_b2 s [] acc z i = some (.out (.ret ([], 14))) := by
    unfold fUnpack_b2; rw [cnd_tt (decide_eq_true (by omega)), cnd_tt (by decide)]; rfl
   simp only [hb]; rfl
  | [a], ht =>
   have hb : fUnpack_b2 s [a] acc z i = some (.out (.ret ([], 14))) := by
    unfold fUnpack_b2; rw [cnd_tt (decide_eq_true (by omega)), cnd_tt (by simp)]; rfl
   simp only [hb]; rfl
  | a :: b :: r, ht =>
   have haa := a.toNat_lt
   have hbb := b.toNat_lt
   simp only [List.length_cons] at ht
   have hd : List.drop (Int.toNat 2) (a :: b :: r) = r := rfl
   have hb : fUnpack_b2 s (a :: b :: r) acc z i = bif decide (4000 < a.toNat * 256 + b.toNat) then some (.out (.ret ([], 13))) else bif decide (r.length < a.toNat * 256 + b.toNat) then some (.out (.ret ([], 14))) else some (.next (r.drop (a.toNat * 256 + b.toNat), acc ++ [r.take (a.toNat * 256 + b.toNat)], ((a.toNat * 256 + b.toNat : Nat) : Int), i + 1)) := by
    unfold fUnpack_b2
    rw [cnd_tt (decide_eq_true (by omega)), cnd_ff (decide_eq_false (by simp only [List.length_cons]; omega)), bat0, bat1, hd, iOr8]
    have hlen : ((a :: b :: r).length : Int) = (r.length : Int) + 2 := by simp only [List.length_cons]; omega
    rw [hlen, chk_inR (by omega) (by omega), chk_i64 (by omega) (by omega), chk_inR (by omega) (by omega), chk_i64 (by omega) (by omega), chk_inC (by omega) (by omega)]
    generalize a.toNat * 256 + b.toNat = m
    rw [show decide ((4000 : Int) < (m : Int)) = decide (4000 < m) from by rw [Bool.eq_iff_iff]; simp; omega, show decide ((r.length : Int) < (m : Int)) = decide (r.length < m) from by rw [Bool.eq_iff_iff]; simp]
    cases h1 : decide (4000 < m) with
    | true => rfl
    | false =>
     cases h2 : decide (r.length < m) with
     | true => rfl
     | false =>
      simp only [decide_eq_false_iff_not] at h1 h2
      rw [cnd_ff rfl, cnd_ff rfl, chk_inC (by omega) (by omega), chk_inA16 (by simp; omega), chk_i64 (by omega) (by omega)]; rfl
   simp only [hb]
   rw [unpF]
   cases h1 : decide (4000 < a.toNat * 256 + b.toNat) with
   | true => rfl
   | false =>
    cases h2 : decide (r.length < a.toNat * 256 + b.toNat) with
    | true => rfl
    | false =>
     simp only [cond_false]
     exact fUnp_b s c hs k F _ _ _ _ (by omega) (by omega) (by omega) (by simp; omega) (by omega) (by simp; omega)
theorem fUnpack_eq {F : Nat} {s : Str} (hF : 64 < F) (hs : s.length ≤ 1000000000) : fUnpack F s = some (unpV s) := by
 unfold fUnpack
 cases s with
 | nil => rfl
 | cons c t =>
  have hc := c.toNat_lt
  simp only [List.length_cons] at hs
  rw [cnd_ff (by simp), chk_inR (by omega) (by simp only [List.length_cons]; omega), bat0, chk_i64 (by omega) (by omega), chk_inC (by omega) (by simp only [List.length_cons]; omega)]
  rw [show decide ((64 : Int) < (c.toNat : Int)) = decide (64 < c.toNat) from by rw [Bool.eq_iff_iff]; simp; omega]
  rw [unpV]
  cases h : decide (64 < c.toNat) with
  | true => rfl
  | false =>
   simp only [decide_eq_false_iff_not] at h
   rw [cnd_ff rfl]
   exact fUnp_b (c :: t) c rfl c.toNat F t [] 0 0 (by omega) (by omega) (Int.le_refl 0) (by simp) (by omega) (by omega)
theorem bat_drop {s : Str} {k : Nat} {a : UInt8} {r : Str} (h : s.drop k = a :: r) : bat s (k : Int) = (a.toNat : Int) := by
 have : s[k]? = some a := by rw [← List.head?_drop, h]; rfl
 simp [bat, this]
theorem r4Unp_body {s : Str} {c a b : UInt8} {r : Str} {p : Nat} {acc : List Str} {i : Int} (hs : bat s 0 = (c.toNat : Int)) (hsl : s.length ≤ 1000000000) (hd : s.drop p = a :: b :: r) (hi : i < (c.toNat : Int)) (h0 : 0 ≤ i) (ha : acc.length ≤ 64) :
  r4Unpack_b1 s acc (p : Int) i = bif decide (4000 < a.toNat * 256 + b.toNat) then some (.out (.ret ([], 13))) else bif decide (r.length < a.toNat * 256 + b.toNat) then some (.out (.ret ([], 14))) else some (.next (acc ++ [r.take (a.toNat * 256 + b.toNat)], ((p + 2 + (a.toNat * 256 + b.toNat) : Nat) : Int), i + 1)) := by
 have hcc := c.toNat_lt
 have haa := a.toNat_lt
 have hbb := b.toNat_lt
 have hdl : (s.drop p).length = s.length - p := List.length_drop ..
 rw [hd] at hdl; simp only [List.length_cons] at hdl
 have hd1 : s.drop (p + 1) = b :: r := by rw [← List.drop_drop, hd]; rfl
 have hd2 : s.drop (p + 2) = r := by rw [← List.drop_drop, hd]; rfl
 have b1 : bat s ((p : Int) + 1) = (b.toNat : Int) := by rw [show (p : Int) + 1 = ((p + 1 : Nat) : Int) from by omega]; exact bat_drop hd1
 unfold r4Unpack_b1
 rw [hs, cnd_tt (decide_eq_true hi), chk_i64 (by omega) (by omega), cnd_ff (decide_eq_false (by omega)), bat_drop hd, b1]
 have e1 : (a.toNat : Int) * 256 + (b.toNat : Int) = ((a.toNat * 256 + b.toNat : Nat) : Int) := by omega
 rw [chk_inR (by omega) (by omega), chk_i64 (by omega) (by omega), chk_i64 (by omega) (by omega), chk_i64 (by omega) (by omega), chk_inR (by omega) (by omega), chk_i64 (by omega) (by omega), chk_i64 (by omega) (by omega), e1]
 have hm2 : a.toNat * 256 + b.toNat ≤ 100000 := by omega
 generalize a.toNat * 256 + b.toNat = m at *
 have e2 : (s.length : Int) - (p : Int) - 2 = (r.length : Int) := by omega
 have e3 : (p : Int) + 2 + (m : Int) = ((p + 2 + m : Nat) : Int) := by omega
 have e4 : Int.toNat ((p : Int) + 2) = p + 2 := by omega
 rw [e2, e3, e4, hd2, show decide ((4000 : Int) < (m : Int)) = decide (4000 < m) from by rw [Bool.eq_iff_iff]; simp; omega, show decide ((r.length : Int) < (m : Int)) = decide (r.length < m) from by rw [Bool.eq_iff_iff]; simp]
 cases h1 : decide (4000 < m) with
 | true => rw [cnd_tt rfl, cond_true]
 | false =>
  rw [cnd_ff rfl, cond_false, chk_i64 (by omega) (by omega)]
  cases h2 : decide (r.length < m) with
  | true => rw [cnd_tt rfl, cond_true]
  | false =>
   simp only [decide_eq_false_iff_not] at h1 h2
   rw [cnd_ff rfl, cond_false, chk_i64 (by omega) (by omega), chk_i64 (by omega) (by omega), chk_inC (by omega) (by omega), chk_inC (by omega) (by omega), chk_inA16 (by simp; omega), chk_i64 (by omega) (by omega)]
   rw [show (((p + 2 + m : Nat) : Int)).toNat - (p + 2) = m from by omega]
theorem r4Unp_b (s : Str) (c : UInt8) (hs : bat s 0 = (c.toNat : Int)) (hsl : s.length ≤ 1000000000) (k : Nat) : ∀ (F : Nat) (p : Nat) (acc : List Str) (i : Int), k < F → i + k = (c.toNat : Int) → 0 ≤ i → acc.length ≤ 64 - k → k ≤ 64 → p ≤ s.length →
  obn (lop (fun σ => r4Unpack_b1 s σ.1 σ.2.1 σ.2.2) F (acc, (p : Int), i)) (oute fun ν => r4Unpack_k1 s ν.1 ν.2) = some (unpF k (s.drop p) acc) := by
 induction k with
 | zero =>
  intro F p acc i hF hi h0 ha hk hp
  obtain ⟨F, rfl⟩ : ∃ G, F = G + 1 := ⟨F - 1, by omega⟩
  rw [lop]
  have hb : r4Unpack_b1 s acc (p : Int) i = some (.out (.go (acc, (p : Int)))) := by
   unfold r4Unpack_b1; rw [cnd_ff (decide_eq_false (by omega))]
  simp only [hb]
  show r4Unpack_k1 s acc p = _
  unfold r4Unpack_k1 unpF
  rw [show decide ((p : Int) < (s.length : Int)) = !decide (s.drop p = []) from by rw [Bool.eq_iff_iff]; simp]
  cases h : decide (s.drop p = []) <;> rfl
 | succ k ih =>
  intro F p acc i hF hi h0 ha hk hp
  obtain ⟨F, rfl⟩ : ∃ G, F = G + 1 := ⟨F - 1, by omega⟩
  rw [lop]
  have hcc := c.toNat_lt
  have hdl : (s.drop p).length = s.length - p := List.length_drop ..
  match hd : s.drop p with
  | [] =>
   rw [hd] at hdl; simp only [List.length_nil] at hdl
   have hb : r4Unpack_b1 s acc (p : Int) i = some (.out (.ret ([], 14))) := by
    unfold r4Unpack_b1; rw [cnd_tt (decide_eq_true (by omega)), chk_i64 (by omega) (by omega), cnd_tt (decide_eq_true (by omega))]
   simp only [hb]; rfl
  | [a] =>
   rw [hd] at hdl; simp only [List.length_cons, List.length_nil] at hdl
   have hb : r4Unpack_b1 s acc (p : Int) i = some (.out (.ret ([], 14))) := by
    unfold r4Unpack_b1; rw [cnd_tt (decide_eq_true (by omega)), chk_i64 (by omega) (by omega), cnd_tt (decide_eq_true (by omega))]
   simp only [hb]; rfl
  | a :: b :: r =>
   have hd2 : s.drop (p + 2) = r := by rw [← List.drop_drop, hd]; rfl
   have hb := r4Unp_body (acc := acc) (i := i) hs hsl hd (by omega) h0 (by omega)
   simp only [hb]
   rw [hd] at hdl; simp only [List.length_cons] at hdl
   rw [unpF]
   generalize a.toNat * 256 + b.toNat = m
   cases h1 : decide (4000 < m) with
   | true => simp only [cond_true]; rfl
   | false =>
    cases h2 : decide (r.length < m) with
    | true => simp only [cond_true, cond_false]; rfl
    | false =>
     simp only [decide_eq_false_iff_not] at h1 h2
     simp only [cond_false]
     have := ih F (p + 2 + m) (acc ++ [r.take m]) (i + 1) (by omega) (by omega) (by omega) (by rw [List.length_append]; simp only [List.length_cons, List.length_nil]; omega) (by omega) (by omega)
     rw [← List.drop_drop, hd2] at this
     exact this
theorem r4Unpack_eq {F : Nat} {s : Str} (hF : 64 < F) (hs : s.length ≤ 1000000000) : r4Unpack F s = some (unpV s) := by
 unfold r4Unpack
 cases s with
 | nil => rfl
 | cons c t =>
  have hc := c.toNat_lt
  simp only [List.length_cons] at hs
  rw [cnd_ff (decide_eq_false (by simp; omega)), chk_inR (by omega) (by simp only [List.length_cons]; omega), bat0]
  rw [show decide ((64 : Int) < (c.toNat : Int)) = decide (64 < c.toNat) from by rw [Bool.eq_iff_iff]; simp; omega]
  rw [unpV]
  cases h : decide (64 < c.toNat) with
  | true => rfl
  | false =>
   simp only [decide_eq_false_iff_not] at h
   rw [cnd_ff rfl, chk_i64 (by omega) (by omega)]
   exact r4Unp_b (c :: t) c rfl (by simp; omega) c.toNat F 1 [] 0 (by omega) (by omega) (Int.le_refl 0) (by simp) (by omega) (by simp)
/-! ### Round trips -/
theorem unpF_inv : ∀ (n : Nat) (s : Str) (acc : List Str) (q : List Str), unpF n s acc = (q, 0) → ∃ l, q = acc ++ l ∧ l.length = n ∧ (l.all fun f => decide (f.length ≤ 4000)) = true ∧ l.flatMap encF = s
 | 0, s, acc, q, h => by
  rw [unpF] at h
  cases hs : decide (s = []) with
  | true => rw [hs] at h; simp only [cond_true, Prod.mk.injEq] at h; exact ⟨[], by simp [h.1], rfl, rfl, by rw [of_decide_eq_true hs]; rfl⟩
  | false => rw [hs] at h; cases h
 | n + 1, [], acc, q, h => by have h2 : (([] : List Str), (14 : Int)) = (q, 0) := h; cases h2
 | n + 1, [a], acc, q, h => by have h2 : (([] : List Str), (14 : Int)) = (q, 0) := h; cases h2
 | n + 1, a :: b :: r, acc, q, h => by
  rw [unpF] at h
  have ha := a.toNat_lt
  have hb := b.toNat_lt
  cases h1 : decide (4000 < a.toNat * 256 + b.toNat) with
  | true => rw [h1] at h; cases h
  | false =>
   cases h2 : decide (r.length < a.toNat * 256 + b.toNat) with
   | true => rw [h1, h2] at h; cases h
   | false =>
    rw [h1, h2] at h
    simp only [cond_false] at h
    simp only [decide_eq_false_iff_not] at h1 h2
    obtain ⟨l, e1, e2, e3, e4⟩ := unpF_inv n _ _ _ h
    have hl : (r.take (a.toNat * 256 + b.toNat)).length = a.toNat * 256 + b.toNat := by simp; omega
    refine ⟨r.take (a.toNat * 256 + b.toNat) :: l, by rw [e1]; simp, by simp [e2], ?_, ?_⟩
    ·rw [List.all_cons, e3, Bool.and_true, decide_eq_true_eq, hl]; omega
    ·rw [List.flatMap_cons, e4]
     unfold encF
     rw [hl]
     have x1 : UInt8.ofNat ((a.toNat * 256 + b.toNat) / 256) = a := by
      apply UInt8.toNat_inj.1; simp only [UInt8.toNat_ofNat']; omega
     have x2 : UInt8.ofNat ((a.toNat * 256 + b.toNat) % 256) = b := by
      apply UInt8.toNat_inj.1; simp only [UInt8.toNat_ofNat']; omega
     rw [x1, x2]
     simp
theorem pack_unp {s : Str} {l : List Str} (h : unpV s = (l, 0)) : okP l = true ∧ packS l = s := by
 cases s with
 | nil => cases h
 | cons c t =>
  rw [unpV] at h
  cases h1 : decide (64 < c.toNat) with
  | true => rw [h1] at h; cases h
  | false =>
   rw [h1] at h
   simp only [cond_false] at h
   simp only [decide_eq_false_iff_not] at h1
   obtain ⟨l', e1, e2, e3, e4⟩ := unpF_inv _ _ _ _ h
   simp only [List.nil_append] at e1
   subst e1
   unfold okP packS
   rw [e3, e4, e2, decide_eq_true (by omega)]
   exact ⟨rfl, by simp⟩
theorem unp_small {s : Str} {f : Str} (h : f ∈ (unpV s).1) (h0 : (unpV s).2 = 0) : f.length ≤ 4000 := by
 have := (pack_unp (s := s) (l := (unpV s).1) (by rw [← h0])).1
 unfold okP at this
 simp only [Bool.and_eq_true, decide_eq_true_eq, List.all_eq_true] at this
 exact this.2 f h
end Go.Proofs.YtpmiamphppcfeaaGreatDoor

/-
 Texts of values: a plain reader of bytes. Plain definitions and laws.
-/
namespace Go.Proofs.YtpmiamphppcfeaaGreatDoor
open Go
set_option linter.unusedVariables false
set_option linter.unusedSimpArgs false
def pre : Str → Str → Option Str
 | [], s => some s
 | c :: w, d :: s => bif decide (c = d) then pre w s else none
 | _ :: _, [] => none
def strP (strict : Bool) : Str → Option (Str × Str)
 | [] => none
 | c :: r =>
  bif decide (c = 34) then some ([], r) else
  bif strict && !okc c then none else
  bif decide (c = 92) then (match r with
   | [] => none
   | d :: r' => bif decide (d = 34) || decide (d = 92) then (match strP strict r' with
    | none => none
    | some (t, u) => some (d :: t, u)) else none)
  else (match strP strict r with
   | none => none
   | some (t, u) => some (c :: t, u))
def isDig (c : UInt8) : Bool := decide (48 ≤ c.toNat) && decide (c.toNat ≤ 57)
def digP : Str → Str × Str
 | [] => ([], [])
 | c :: r => bif isDig c then (c :: (digP r).1, (digP r).2) else ([], c :: r)
def numD (d : Str) : Int := d.foldl (fun n c => 10 * n + ((c.toNat : Int) - 48)) 0
def intV (neg : Bool) (d : Str) : Int :=
 bif decide (18 < d.length) then (bif neg then -2000000000000 else 2000000000000) else bif neg then -(numD d) else numD d
def canon (neg : Bool) (d : Str) : Bool := !decide (d = []) && !(decide (d.head? = some 48) && (decide (1 < d.length) || neg))
def intP (s : Str) : Option (Fo × Str) :=
 let neg := decide (s.head? = some 45)
 let r := bif neg then s.tail else s
 bif canon neg (digP r).1 then some (.cell none ⟨3, intV neg (digP r).1, [], 0⟩ .nil, (digP r).2) else none
def lf (k i : Int) (t : Str) : Fo := .cell none ⟨k, i, t, 0⟩ .nil
def nd (m : Bool) (g : Fo) : Fo := bif decide (g.cnt = 0) then .cell none ⟨bif m then 6 else 5, 0, [], 0⟩ .nil else .node none ⟨bif m then 6 else 5, 0, [], (g.cnt : Int)⟩ g .nil
def closeC (m : Bool) : UInt8 := bif m then 125 else 93
def keyP (strict m : Bool) (last : Option Str) (s : Str) : Option (Option Str × Str) :=
 bif m then (match s with
  | [] => none
  | c :: r => bif decide (c = 34) then (match strP strict r with
   | none => none
   | some (k, u) => bif strict && !keyOk true last (some k) then none else (match u with
    | [] => none
    | d :: u' => bif decide (d = 58) then some (some k, u') else none)) else none)
 else some (none, s)
mutual
def par (strict : Bool) : Nat → Str → Option (Fo × Str)
 | 0, _ => none
 | F + 1, s =>
  match pre [110, 117, 108, 108] s with
  | some r => some (lf 1 0 [], r)
  | none => match pre [116, 114, 117, 101] s with
   | some r => some (lf 2 1 [], r)
   | none => match pre [102, 97, 108, 115, 101] s with
    | some r => some (lf 2 0 [], r)
    | none => match s with
     | [] => none
     | c :: r =>
      bif decide (c = 34) then (match strP strict r with
       | none => none
       | some (t, u) => some (lf 4 0 t, u)) else
      bif decide (c = 91) || decide (c = 123) then (match r with
       | [] => none
       | d :: r' => bif decide (d = closeC (decide (c = 123))) then some (nd (decide (c = 123)) .nil, r') else (match parL strict F (decide (c = 123)) none (d :: r') with
        | none => none
        | some (g, u) => some (nd (decide (c = 123)) g, u))) else
      intP (c :: r)
def parL (strict : Bool) : Nat → Bool → Option Str → Str → Option (Fo × Str)
 | 0, _, _, _ => none
 | F + 1, m, last, s =>
  match keyP strict m last s with
  | none => none
  | some (key, s1) => match par strict F s1 with
   | none => none
   | some (f, s2) => match s2 with
    | [] => none
    | c :: s3 =>
     bif decide (c = closeC m) then some (f.put key .nil, s3) else
     bif decide (c = 44) then (match parL strict F m key s3 with
      | none => none
      | some (g, u) => some (f.put key g, u)) else none
end
theorem par_succ (strict : Bool) (F : Nat) (s : Str) : par strict (F + 1) s =
  match pre [110, 117, 108, 108] s with
  | some r => some (lf 1 0 [], r)
  | none => match pre [116, 114, 117, 101] s with
   | some r => some (lf 2 1 [], r)
   | none => match pre [102, 97, 108, 115, 101] s with
    | some r => some (lf 2 0 [], r)
    | none => match s with
     | [] => none
     | c :: r =>
      bif decide (c = 34) then (match strP strict r with
       | none => none
       | some (t, u) => some (lf 4 0 t, u)) else
      bif decide (c = 91) || decide (c = 123) then (match r with
       | [] => none
       | d :: r' => bif decide (d = closeC (decide (c = 123))) then some (nd (decide (c = 123)) .nil, r') else (match parL strict F (decide (c = 123)) none (d :: r') with
        | none => none
        | some (g, u) => some (nd (decide (c = 123)) g, u))) else
      intP (c :: r) := by
 rw [par.eq_def]
theorem parL_succ (strict : Bool) (F : Nat) (m : Bool) (last : Option Str) (s : Str) : parL strict (F + 1) m last s =
  match keyP strict m last s with
  | none => none
  | some (key, s1) => match par strict F s1 with
   | none => none
   | some (f, s2) => match s2 with
    | [] => none
    | c :: s3 =>
     bif decide (c = closeC m) then some (f.put key .nil, s3) else
     bif decide (c = 44) then (match parL strict F m key s3 with
      | none => none
      | some (g, u) => some (f.put key g, u)) else none := by
 rw [parL.eq_def]
theorem pre_len : ∀ {w s r : Str}, pre w s = some r → s = w ++ r
 | [], s, r, h => by cases h; rfl
 | c :: w, [], r, h => by cases h
 | c :: w, d :: s, r, h => by
  rw [pre] at h
  cases hc : decide (c = d) with
  | false => rw [hc] at h; cases h
  | true =>
   rw [hc] at h
   simp only [decide_eq_true_eq] at hc
   rw [hc, pre_len h]; rfl
theorem strP_cons (b : Bool) (c : UInt8) (r : Str) : strP b (c :: r) =
  bif decide (c = 34) then some ([], r) else
  bif b && !okc c then none else
  bif decide (c = 92) then (match r with
   | [] => none
   | d :: r' => bif decide (d = 34) || decide (d = 92) then (match strP b r' with
    | none => none
    | some (t, u) => some (d :: t, u)) else none)
  else (match strP b r with
   | none => none
   | some (t, u) => some (c :: t, u)) := by
 rw [strP.eq_def]
 cases r <;> rfl
theorem strP_len (b : Bool) : ∀ (n : Nat) (s t u : Str), s.length = n → strP b s = some (t, u) → u.length < s.length := by
 intro n
 induction n using Nat.strongRecOn with
 | ind n ih =>
  intro s t u hn h
  cases s with
  | nil => cases h
  | cons c r =>
   simp only [List.length_cons] at hn ⊢
   rw [strP_cons] at h
   cases h1 : decide (c = 34) with
   | true => rw [h1] at h; cases h; omega
   | false =>
    rw [h1] at h
    simp only [cond_false] at h
    cases h2 : (b && !okc c) with
    | true => rw [h2] at h; cases h
    | false =>
     rw [h2] at h
     simp only [cond_false] at h
     cases h3 : decide (c = 92) with
     | true =>
      rw [h3] at h
      cases r with
      | nil => cases h
      | cons d r' =>
       simp only [cond_true] at h
       cases h4 : (decide (d = 34) || decide (d = 92)) with
       | false => rw [h4] at h; cases h
       | true =>
        rw [h4] at h
        simp only [cond_true] at h
        cases h5 : strP b r' with
        | none => rw [h5] at h; cases h
        | some q =>
         obtain ⟨t', u'⟩ := q
         rw [h5] at h; cases h
         simp only [List.length_cons] at hn ⊢
         have := ih r'.length (by omega) r' t' u rfl h5
         omega
     | false =>
      rw [h3] at h
      simp only [cond_false] at h
      cases h5 : strP b r with
      | none => rw [h5] at h; cases h
      | some q =>
       obtain ⟨t', u'⟩ := q
       rw [h5] at h; cases h
       have := ih r.length (by omega) r t' u rfl h5
       omega
theorem digP_eq : ∀ s : Str, s = (digP s).1 ++ (digP s).2
 | [] => rfl
 | c :: r => by
  have := digP_eq r
  rw [digP]
  cases isDig c with
  | true => simp only [cond_true, List.cons_append]; rw [← this]
  | false => rfl
theorem intP_len {s u : Str} {f : Fo} (h : intP s = some (f, u)) : u.length < s.length := by
 unfold intP at h
 simp only at h
 cases hc : canon (decide (s.head? = some 45)) (digP (bif decide (s.head? = some 45) then s.tail else s)).1 with
 | false => rw [hc] at h; cases h
 | true =>
  rw [hc] at h
  simp only [cond_true, Option.some.injEq, Prod.mk.injEq] at h
  obtain ⟨_, h⟩ := h
  have e := congrArg List.length (digP_eq (bif decide (s.head? = some 45) then s.tail else s))
  rw [List.length_append, h] at e
  have h1 : 0 < (digP (bif decide (s.head? = some 45) then s.tail else s)).1.length := by
   unfold canon at hc
   simp only [Bool.and_eq_true, Bool.not_eq_true', decide_eq_false_iff_not] at hc
   exact List.length_pos_iff.2 hc.1
  have h2 : (bif decide (s.head? = some 45) then s.tail else s).length ≤ s.length := by
   cases decide (s.head? = some 45) <;> simp
  omega
theorem keyP_len {b m : Bool} {last key : Option Str} {s u : Str} (h : keyP b m last s = some (key, u)) : u.length ≤ s.length := by
 unfold keyP at h
 cases m with
 | false => cases h; exact Nat.le_refl _
 | true =>
  simp only [cond_true] at h
  cases s with
  | nil => cases h
  | cons c r =>
   simp only at h
   cases h1 : decide (c = 34) with
   | false => rw [h1] at h; cases h
   | true =>
    rw [h1] at h
    simp only [cond_true] at h
    cases h2 : strP b r with
    | none => rw [h2] at h; cases h
    | some q =>
     obtain ⟨k, w⟩ := q
     have := strP_len b _ r k w rfl h2
     rw [h2] at h
     simp only at h
     cases h3 : (b && !keyOk true last (some k)) with
     | true => rw [h3] at h; cases h
     | false =>
      rw [h3] at h
      simp only [cond_false] at h
      cases w with
      | nil => cases h
      | cons d w' =>
       simp only at h
       cases h4 : decide (d = 58) with
       | false => rw [h4] at h; cases h
       | true => rw [h4] at h; cases h; simp only [List.length_cons] at this ⊢; omega
end Go.Proofs.YtpmiamphppcfeaaGreatDoor

/-
 The plain reader of bytes: what it leaves is shorter; numbers. Plain laws.
-/
namespace Go.Proofs.YtpmiamphppcfeaaGreatDoor
open Go
set_option linter.unusedVariables false
set_option linter.unusedSimpArgs false
theorem nd_one (m : Bool) (g : Fo) : (nd m g).one = true := by
 unfold nd
 cases decide (g.cnt = 0) <;> rfl
theorem intP_one {s u : Str} {f : Fo} (h : intP s = some (f, u)) : f.one = true := by
 unfold intP at h
 simp only at h
 cases hc : canon (decide (s.head? = some 45)) (digP (bif decide (s.head? = some 45) then s.tail else s)).1 with
 | false => rw [hc] at h; cases h
 | true => rw [hc] at h; cases h; rfl
theorem par_len (b : Bool) : ∀ F : Nat, (∀ s f u, par b F s = some (f, u) → u.length < s.length ∧ f.one = true) ∧ (∀ m last s g u, parL b F m last s = some (g, u) → u.length < s.length ∧ 1 ≤ g.cnt)
 | 0 => ⟨(fun s f u h => by rw [par.eq_def] at h; cases h), (fun m last s g u h => by rw [parL.eq_def] at h; cases h)⟩
 | F + 1 => by
  obtain ⟨ih1, ih2⟩ := par_len b F
  constructor
  ·intro s f u h
   rw [par_succ] at h
   cases h1 : pre [110, 117, 108, 108] s with
   | some r => rw [h1] at h; cases h; rw [pre_len h1]; exact ⟨by simp; omega, rfl⟩
   | none =>
   rw [h1] at h; simp only at h
   cases h2 : pre [116, 114, 117, 101] s with
   | some r => rw [h2] at h; cases h; rw [pre_len h2]; exact ⟨by simp; omega, rfl⟩
   | none =>
   rw [h2] at h; simp only at h
   cases h3 : pre [102, 97, 108, 115, 101] s with
   | some r => rw [h3] at h; cases h; rw [pre_len h3]; exact ⟨by simp; omega, rfl⟩
   | none =>
   rw [h3] at h; simp only at h
   cases s with
   | nil => cases h
   | cons c r =>
   simp only at h
   cases h4 : decide (c = 34) with
   | true =>
    rw [h4] at h; simp only [cond_true] at h
    cases h5 : strP b r with
    | none => rw [h5] at h; cases h
    | some q =>
     obtain ⟨t, w⟩ := q
     rw [h5] at h; cases h
     have := strP_len b _ r t u rfl h5
     exact ⟨by simp only [List.length_cons]; omega, rfl⟩
   | false =>
   rw [h4] at h; simp only [cond_false] at h
   cases h5 : (decide (c = 91) || decide (c = 123)) with
   | false => rw [h5] at h; simp only [cond_false] at h; exact ⟨intP_len h, intP_one h⟩
   | true =>
   rw [h5] at h; simp only [cond_true] at h
   cases r with
   | nil => cases h
   | cons d r' =>
   simp only at h
   cases h6 : decide (d = closeC (decide (c = 123))) with
   | true => rw [h6] at h; cases h; exact ⟨by simp only [List.length_cons]; omega, nd_one _ _⟩
   | false =>
   rw [h6] at h; simp only [cond_false] at h
   cases h7 : parL b F (decide (c = 123)) none (d :: r') with
   | none => rw [h7] at h; cases h
   | some q =>
    obtain ⟨g, w⟩ := q
    rw [h7] at h; cases h
    have := (ih2 _ _ _ _ _ h7).1
    exact ⟨by simp only [List.length_cons] at this ⊢; omega, nd_one _ _⟩
  ·intro m last s g u h
   rw [parL_succ] at h
   cases h1 : keyP b m last s with
   | none => rw [h1] at h; cases h
   | some q =>
   obtain ⟨key, s1⟩ := q
   have l1 := keyP_len h1
   rw [h1] at h; simp only at h
   cases h2 : par b F s1 with
   | none => rw [h2] at h; cases h
   | some q =>
   obtain ⟨f, s2⟩ := q
   obtain ⟨l2, o2⟩ := ih1 _ _ _ h2
   rw [h2] at h; simp only at h
   cases s2 with
   | nil => cases h
   | cons c s3 =>
   simp only [List.length_cons] at l2
   have hput : ∀ r : Fo, 1 ≤ (f.put key r).cnt := fun r => by
    cases f with
    | nil => cases o2
    | cell _ _ _ => simp [Fo.put, Fo.cnt]
    | node _ _ _ _ => simp [Fo.put, Fo.cnt]
   simp only at h
   cases h3 : decide (c = closeC m) with
   | true => rw [h3] at h; cases h; exact ⟨by omega, hput _⟩
   | false =>
   rw [h3] at h; simp only [cond_false] at h
   cases h4 : decide (c = 44) with
   | false => rw [h4] at h; cases h
   | true =>
   rw [h4] at h; simp only [cond_true] at h
   cases h5 : parL b F m key s3 with
   | none => rw [h5] at h; cases h
   | some q =>
    obtain ⟨g', w⟩ := q
    rw [h5] at h; cases h
    have := (ih2 _ _ _ _ _ h5).1
    exact ⟨by omega, hput _⟩
/-! ### numbers -/
def natF (acc : Nat) (d : Str) : Nat := d.foldl (fun n c => 10 * n + (c.toNat - 48)) acc
theorem natF_mono : ∀ (d : Str) (a : Nat), a ≤ natF a d
 | [], a => Nat.le_refl _
 | c :: d, a => by
  have := natF_mono d (10 * a + (c.toNat - 48))
  show a ≤ natF (10 * a + (c.toNat - 48)) d
  omega
theorem natF_pow : ∀ (d : Str) (a : Nat), 1 ≤ a → 10 ^ d.length ≤ natF a d
 | [], a, h => by simpa [natF] using h
 | c :: d, a, h => by
  have hm : ∀ (d : Str) (a b : Nat), a ≤ b → natF a d ≤ natF b d := by
   intro d
   induction d with
   | nil => intro a b h; exact h
   | cons c d ih => intro a b h; show natF (10 * a + (c.toNat - 48)) d ≤ natF (10 * b + (c.toNat - 48)) d; exact ih _ _ (by omega)
  have hs : ∀ (d : Str) (a : Nat), 10 ^ d.length * a ≤ natF a d := by
   intro d
   induction d with
   | nil => intro a; simp [natF]
   | cons c d ih =>
    intro a
    have := ih (10 * a + (c.toNat - 48))
    show 10 ^ (d.length + 1) * a ≤ natF (10 * a + (c.toNat - 48)) d
    refine Nat.le_trans ?_ this
    rw [Nat.pow_succ, Nat.mul_assoc]
    exact Nat.mul_le_mul_left _ (by omega)
  exact Nat.le_trans (Nat.le_mul_of_pos_right _ h) (hs (c :: d) a)
theorem numD_nat : ∀ (d : Str) (a : Nat), d.all isDig = true → d.foldl (fun n c => 10 * n + ((c.toNat : Int) - 48)) (a : Int) = (natF a d : Int)
 | [], a, _ => rfl
 | c :: d, a, h => by
  simp only [List.all_cons, Bool.and_eq_true] at h
  have hc : 48 ≤ c.toNat := by have := h.1; simp [isDig] at this; omega
  have := numD_nat d (10 * a + (c.toNat - 48)) h.2
  show d.foldl _ (10 * (a : Int) + ((c.toNat : Int) - 48)) = (natF (10 * a + (c.toNat - 48)) d : Int)
  rw [← this]
  congr 1
  omega
theorem parseU : ∀ (d : Str) (a : Nat), d.all isDig = true → Lib.parseUint10 a d = .ok (natF a d) ∨ (Lib.parseUint10 a d = .range ∧ 1000000000000 < natF a d)
 | [], a, _ => .inl rfl
 | c :: d, a, h => by
  simp only [List.all_cons, Bool.and_eq_true] at h
  have hc : 48 ≤ c.toNat ∧ c.toNat ≤ 57 := by have := h.1; simp [isDig] at this; omega
  have hm := natF_mono d (10 * a + (c.toNat - 48))
  have e : natF a (c :: d) = natF (10 * a + (c.toNat - 48)) d := rfl
  rw [e]
  unfold Lib.parseUint10
  rw [if_pos hc]
  split
  ·exact .inr ⟨rfl, by omega⟩
  ·split
   ·exact .inr ⟨rfl, by omega⟩
   ·rw [show a * 10 + (c.toNat - 48) = 10 * a + (c.toNat - 48) from by omega]
    exact parseU d _ h.2
theorem all_digCh : ∀ (d : Str) (i : Nat), allFrom digCh i d = d.all isDig
 | [], _ => rfl
 | c :: d, i => by
  rw [allFrom, List.all_cons, all_digCh d]
  congr 1
  simp only [digCh, isDig]
  rw [Bool.eq_iff_iff]
  simp only [Bool.not_eq_true', Bool.or_eq_false_iff, decide_eq_false_iff_not, Bool.and_eq_true, decide_eq_true_eq]; omega
def txtD (neg : Bool) (d : Str) : Str := bif neg then 45 :: d else d
theorem head_dig {d : Str} (hd : d.all isDig = true) : ¬ d.head? = some 45 := by
 cases d with
 | nil => simp
 | cons c d =>
  simp only [List.all_cons, Bool.and_eq_true] at hd
  have := hd.1
  intro e
  simp only [List.head?_cons, Option.some.injEq] at e
  subst e
  simp [isDig] at this
theorem sgnS_head (s : Str) : sgnS s = decide (s.head? = some 45) := by
 cases s with
 | nil => rfl
 | cons c r =>
  have : bat (c :: r) 0 = c.toNat := bat_get rfl
  unfold sgnS
  rw [this, Bool.eq_iff_iff]
  simp only [Bool.and_eq_true, decide_eq_true_eq, List.head?_cons, Option.some.injEq, ← UInt8.toNat_inj, List.length_cons]
  show _ ∧ (c.toNat : Int) = 45 ↔ c.toNat = 45
  omega
theorem digs_txt {neg : Bool} {d : Str} (hd : d.all isDig = true) : digs (txtD neg d) = d := by
 unfold digs
 rw [sgnS_head]
 cases neg with
 | true => rfl
 | false =>
  have := head_dig hd
  show (if decide (d.head? = some 45) = true then d.drop 1 else d) = d
  rw [if_neg (by simpa using this)]
theorem decS_txt {neg : Bool} {d : Str} (hd : d.all isDig = true) : decS (txtD neg d) = canon neg d := by
 unfold decS canon
 rw [digs_txt hd, all_digCh, hd, Bool.and_true]
 cases d with
 | nil => simp
 | cons c r =>
  have hb : bat (c :: r) 0 = c.toNat := bat_get rfl
  have h1 : decide (c :: r = ([] : Str)) = false := by simp
  have h2 : decide (bat (c :: r) 0 = 48) = decide ((c :: r).head? = some 48) := by
   rw [hb, Bool.eq_iff_iff]
   simp only [decide_eq_true_eq, List.head?_cons, Option.some.injEq, ← UInt8.toNat_inj]
   show (c.toNat : Int) = 48 ↔ c.toNat = 48
   omega
  rw [h1, h2, Bool.false_or, Bool.not_false, Bool.true_and]
  cases h48 : decide ((c :: r).head? = some 48) with
  | false => rfl
  | true =>
   simp only [decide_eq_true_eq, List.head?_cons, Option.some.injEq] at h48
   subst h48
   cases neg with
   | true => simp [txtD]
   | false =>
    cases r with
    | nil => simp [txtD]
    | cons a r => simp [txtD]
theorem atoi_txt {neg : Bool} {d : Str} (hd : d.all isDig = true) (hne : d ≠ []) : Lib.atoiAll (txtD neg d) = (bif neg then Lib.signed (Lib.parseUint10 0 d) else Lib.signless (Lib.parseUint10 0 d)) := by
 cases neg with
 | true =>
  simp only [txtD, cond_true]
  rw [Lib.atoiAll_minus, Lib.parseMag, if_neg hne]
 | false =>
  cases d with
  | nil => exact absurd rfl hne
  | cons c r =>
   have hc := hd
   simp only [List.all_cons, Bool.and_eq_true] at hc
   have hc48 : 48 ≤ c.toNat := by have := hc.1; simp [isDig] at this; omega
   simp only [txtD, cond_false]
   rw [Lib.atoiAll_plain c r (by omega) (by omega), Lib.parseMag, if_neg hne]
theorem parse_txt {neg : Bool} {d : Str} (hd : d.all isDig = true) : (canon neg d = false ∧ parseE (txtD neg d) = 1) ∨ (canon neg d = true ∧ outC ⟨3, intV neg d, [], 0⟩ = false ∧ parseE (txtD neg d) = 0 ∧ parseV (txtD neg d) = intV neg d) ∨ (canon neg d = true ∧ outC ⟨3, intV neg d, [], 0⟩ = true ∧ parseE (txtD neg d) = 2 ∧ parseV (txtD neg d) = 0) := by
 unfold parseE parseV
 rw [decS_txt hd]
 cases hc : canon neg d with
 | false => exact .inl ⟨rfl, rfl⟩
 | true =>
  right
  have hc' := hc
  unfold canon at hc'
  simp only [Bool.and_eq_true, Bool.not_eq_true', decide_eq_false_iff_not] at hc'
  have hne := hc'.1
  rw [if_pos rfl, if_pos rfl, atoi_txt hd hne]
  have hnum : numD d = (natF 0 d : Int) := numD_nat d 0 hd
  -- more than 18 digits: great
  have hbig : 18 < d.length → 1000000000000 < natF 0 d := fun hl => by
   cases d with
   | nil => simp at hl
   | cons c r =>
    have hc1 := hd
    simp only [List.all_cons, Bool.and_eq_true] at hc1
    have h48 : 48 ≤ c.toNat := by have := hc1.1; simp [isDig] at this; omega
    have hne48 : ¬ c = 48 := by
     intro e
     have := hc'.2
     subst e
     simp only [List.length_cons] at hl
     have h1r : 1 < r.length + 1 := by omega
     simp [h1r] at this
    have hc49 : 49 ≤ c.toNat := by
     have : ¬ c.toNat = 48 := fun e => hne48 (UInt8.toNat_inj.1 (by rw [e]; rfl))
     omega
    have := natF_pow r (10 * 0 + (c.toNat - 48)) (by omega)
    have h18 : 10 ^ 18 ≤ 10 ^ r.length := Nat.pow_le_pow_right (by decide) (by simp at hl; omega)
    have e : natF 0 (c :: r) = natF (10 * 0 + (c.toNat - 48)) r := rfl
    rw [e]
    have : (1000000000000 : Nat) < 10 ^ 18 := by decide
    omega
  have hout : outC ⟨3, intV neg d, [], 0⟩ = decide (1000000000000 < natF 0 d) := by
   unfold outC intV
   rw [hnum]
   cases h18 : decide (18 < d.length) with
   | true =>
    simp only [decide_eq_true_eq] at h18
    rw [decide_eq_true (hbig h18)]
    cases neg <;> rfl
   | false =>
    rw [Bool.eq_iff_iff]
    cases neg <;> simp <;> omega
  rw [hout]
  rcases parseU d 0 hd with hu | ⟨hu, hg⟩
  ·rw [hu]
   cases hg : decide (1000000000000 < natF 0 d) with
   | false =>
    simp only [decide_eq_false_iff_not] at hg
    have h18 : decide (18 < d.length) = false := by
     rw [decide_eq_false_iff_not]
     intro h; have := hbig h; omega
    refine .inl ⟨rfl, rfl, ?_, ?_⟩
    ·cases neg with
     | true => simp only [cond_true, Lib.signed]; rw [if_neg (by omega)]; simp only; rw [if_pos (by unfold validS; simp; omega)]
     | false => simp only [cond_false, Lib.signless]; rw [if_neg (by omega)]; simp only; rw [if_pos (by unfold validS; simp; omega)]
    ·unfold intV
     rw [h18, hnum]
     cases neg with
     | true => simp only [cond_true, cond_false, Lib.signed]; rw [if_neg (by omega)]; simp only; rw [if_pos (by unfold validS; simp; omega)]
     | false => simp only [cond_false, Lib.signless]; rw [if_neg (by omega)]; simp only; rw [if_pos (by unfold validS; simp; omega)]
   | true =>
    simp only [decide_eq_true_eq] at hg
    refine .inr ⟨rfl, rfl, ?_, ?_⟩
    ·cases neg with
     | true =>
      simp only [cond_true, Lib.signed]
      by_cases hb : 9223372036854775808 < natF 0 d
      ·rw [if_pos hb]
      ·rw [if_neg hb]; simp only; rw [if_neg (by unfold validS; simp; omega)]
     | false =>
      simp only [cond_false, Lib.signless]
      by_cases hb : 9223372036854775808 ≤ natF 0 d
      ·rw [if_pos hb]
      ·rw [if_neg hb]; simp only; rw [if_neg (by unfold validS; simp; omega)]
    ·cases neg with
     | true =>
      simp only [cond_true, Lib.signed]
      by_cases hb : 9223372036854775808 < natF 0 d
      ·rw [if_pos hb]
      ·rw [if_neg hb]; simp only; rw [if_neg (by unfold validS; simp; omega)]
     | false =>
      simp only [cond_false, Lib.signless]
      by_cases hb : 9223372036854775808 ≤ natF 0 d
      ·rw [if_pos hb]
      ·rw [if_neg hb]; simp only; rw [if_neg (by unfold validS; simp; omega)]
  ·rw [hu, decide_eq_true hg]
   refine .inr ⟨rfl, rfl, ?_, ?_⟩ <;> cases neg <;> rfl
end Go.Proofs.YtpmiamphppcfeaaGreatDoor

/-
 value's reader: words, strings, integers, told by the plain reader of bytes. Plain laws.
-/
namespace Go.Proofs.YtpmiamphppcfeaaGreatDoor
open Go
set_option linter.unusedVariables false
set_option linter.unusedSimpArgs false
def Suf (u S : Str) : Prop := ∃ p, S = p ++ u
theorem Suf.len {u S : Str} (h : Suf u S) : u.length ≤ S.length := by obtain ⟨p, rfl⟩ := h; simp
theorem Suf.tail {c : UInt8} {r S : Str} (h : Suf (c :: r) S) : Suf r S := by obtain ⟨p, rfl⟩ := h; exact ⟨p ++ [c], by simp⟩
theorem Suf.app {w r S : Str} (h : Suf (w ++ r) S) : Suf r S := by obtain ⟨p, rfl⟩ := h; exact ⟨p ++ w, by simp⟩
theorem Suf.drop {u S : Str} (h : Suf u S) : S.drop (Int.toNat ((S.length : Int) - u.length)) = u := by
 obtain ⟨p, rfl⟩ := h
 rw [show Int.toNat (((p ++ u).length : Int) - u.length) = p.length from by rw [List.length_append]; omega, List.drop_left]
theorem Suf.get {c : UInt8} {r S : Str} (h : Suf (c :: r) S) : S[(Int.toNat ((S.length : Int) - (c :: r).length))]? = some c := by
 have := h.drop
 have h2 : (S.drop (Int.toNat ((S.length : Int) - (c :: r).length)))[0]? = some c := by rw [this]; rfl
 simpa using h2
def mkq (S u : Str) (cs : List TApiCell) (g : Bool) : TValueReader := ⟨S, (S.length : Int) - u.length, cs, g⟩
theorem pre_app : ∀ (w r : Str), pre w (w ++ r) = some r
 | [], r => rfl
 | c :: w, r => by
  show (bif decide (c = c) then pre w (w ++ r) else none) = some r
  rw [decide_eq_true rfl]; exact pre_app w r
theorem pre_isSome (w s : Str) : (decide ((w.length : Int) ≤ (s.length : Int)) && decide (List.take (Int.toNat (w.length : Int)) s = w)) = (pre w s).isSome := by
 cases h : pre w s with
 | some r =>
  have := pre_len h
  subst this
  simp
  omega
 | none =>
  rw [Bool.eq_iff_iff]
  simp only [Bool.and_eq_true, decide_eq_true_eq, Option.isSome_none, Bool.false_eq_true, iff_false, not_and]
  intro hl e
  have : s = w ++ s.drop w.length := by
   conv => lhs; rw [← List.take_append_drop w.length s]
   rw [show Int.toNat (w.length : Int) = w.length from by omega] at e
   rw [e]
  rw [this, pre_app] at h
  cases h
theorem hasPrefix_eq (s w : Str) : hasPrefix s w = some (pre w s).isSome := by
 unfold hasPrefix slHasPrefix
 rw [← pre_isSome]
 have : imp (decide ((w.length : Int) ≤ (s.length : Int))) (inC (w.length : Int) (s.length : Int)) = true := by
  cases hd : decide ((w.length : Int) ≤ (s.length : Int)) with
  | false => rfl
  | true => simp only [imp]; rw [inC' (by omega) (by simpa using hd)]; rfl
 rw [chk_t this]; rfl
theorem vTake_eq {S u w : Str} {cs : List TApiCell} {g : Bool} (hS : S.length ≤ 100000) (h : Suf u S) : vTake (mkq S u cs g) w = match pre w u with
  | some r => some (true, mkq S r cs g)
  | none => some (false, mkq S u cs g) := by
 have hl := h.len
 unfold vTake mkq
 simp only
 rw [chk_inC (by omega) (by omega), h.drop, hasPrefix_eq, obn_s rfl]
 cases hp : pre w u with
 | none => rfl
 | some r =>
  have e := pre_len hp
  have el : u.length = w.length + r.length := by rw [e]; simp
  rw [cnd_ff (p := !(some r).isSome) rfl, chk_i64 (by omega) (by omega), show (S.length : Int) - u.length + w.length = S.length - r.length from by omega]
theorem pre1 (c : UInt8) (u : Str) : pre [c] u = match u with
  | [] => none
  | d :: r => bif decide (d = c) then some r else none := by
 cases u with
 | nil => rfl
 | cons d r =>
  show (bif decide (c = d) then some r else none) = _
  have : decide (c = d) = decide (d = c) := by rw [Bool.eq_iff_iff]; simp only [decide_eq_true_eq]; exact eq_comm
  rw [this]
theorem ofI_snoc (A : Str) : ofI (toI A) = A := by
 induction A with
 | nil => rfl
 | cons c A ih =>
  show UInt8.ofNat (Int.toNat (c.toNat : Int)) :: ofI (toI A) = c :: A
  rw [ih, ← (show UInt8.ofNat c.toNat = c from by simp)]; simp
theorem strP_ok : ∀ (n : Nat) (s t u : Str), s.length = n → strP true s = some (t, u) → t.all okc = true := by
 intro n
 induction n using Nat.strongRecOn with
 | ind n ih =>
  intro s t u hn h
  cases s with
  | nil => cases h
  | cons c r =>
   simp only [List.length_cons] at hn
   rw [strP_cons] at h
   cases h1 : decide (c = 34) with
   | true => rw [h1] at h; cases h; rfl
   | false =>
    rw [h1] at h
    simp only [cond_false, Bool.true_and] at h
    cases h2 : okc c with
    | false => rw [h2] at h; cases h
    | true =>
     rw [h2] at h
     simp only [Bool.not_true, cond_false] at h
     cases h3 : decide (c = 92) with
     | true =>
      rw [h3] at h
      cases r with
      | nil => cases h
      | cons d r' =>
       simp only [cond_true] at h
       cases h4 : (decide (d = 34) || decide (d = 92)) with
       | false => rw [h4] at h; cases h
       | true =>
        rw [h4] at h
        simp only [cond_true] at h
        cases h5 : strP true r' with
        | none => rw [h5] at h; cases h
        | some q =>
         obtain ⟨t', u'⟩ := q
         rw [h5] at h; cases h
         simp only [List.length_cons] at hn
         have := ih r'.length (by omega) r' t' u rfl h5
         have hd : okc d = true := by
          simp only [Bool.or_eq_true, decide_eq_true_eq] at h4
          rcases h4 with e | e <;> subst e <;> rfl
         simp [hd, this]
     | false =>
      rw [h3] at h
      simp only [cond_false] at h
      cases h5 : strP true r with
      | none => rw [h5] at h; cases h
      | some q =>
       obtain ⟨t', u'⟩ := q
       rw [h5] at h; cases h
       have := ih r.length (by omega) r t' u rfl h5
       simp [h2, this]
theorem okc_bat {c : UInt8} : (decide ((c.toNat : Int) < 32) || decide (126 < (c.toNat : Int))) = !okc c := by
 unfold okc
 rw [Bool.eq_iff_iff]
 simp only [Bool.or_eq_true, decide_eq_true_eq, Bool.not_eq_true', Bool.and_eq_false_iff, decide_eq_false_iff_not]; omega
theorem int34 (c : UInt8) : decide ((c.toNat : Int) = 34) = decide (c = 34) := by
 rw [Bool.eq_iff_iff, decide_eq_true_iff, decide_eq_true_iff, ← UInt8.toNat_inj]
 show _ ↔ c.toNat = 34
 omega
theorem int92 (c : UInt8) : decide ((c.toNat : Int) = 92) = decide (c = 92) := by
 rw [Bool.eq_iff_iff, decide_eq_true_iff, decide_eq_true_iff, ← UInt8.toNat_inj]
 show _ ↔ c.toNat = 92
 omega
theorem toI_snoc (A : Str) (c : UInt8) : toI A ++ ([(c.toNat : Int)] : List Int) = toI (A ++ [c]) := by simp [toI]
theorem vRStr_lop {S : Str} {cs : List TApiCell} {g b : Bool} {p : Int} (hS : S.length ≤ 100000) : ∀ (n L : Nat) (u A : Str), u.length = n → Suf u S → n < L → A.length ≤ S.length - n →
  ∃ o, lop (fun σ => vRStr_b1 (b, ⟨S, p, cs, g⟩) σ.1 σ.2) L (toI A, (S.length : Int) - u.length) = some o ∧ ((∃ t w, strP true u = some (t, w) ∧ Suf w S ∧ oute (fun ν => vRStr_k1 (b, ⟨S, p, cs, g⟩) ν) o = some (A ++ t, true, mkq S w cs g)) ∨ (strP true u = none ∧ ∃ q', oute (fun ν => vRStr_k1 (b, ⟨S, p, cs, g⟩) ν) o = some ([], false, q'))) := by
 intro n
 induction n using Nat.strongRecOn with
 | ind n ih =>
  intro L u A hn hs hL hA
  obtain ⟨L, rfl⟩ : ∃ K, L = K + 1 := ⟨L - 1, by omega⟩
  have hsl := hs.len
  cases u with
  | nil =>
   have hgo : vRStr_b1 (b, ⟨S, p, cs, g⟩) (toI A) ((S.length : Int) - ([] : Str).length) = some (.out (.go ((S.length : Int) - ([] : Str).length))) := by
    unfold vRStr_b1
    rw [cnd_ff (decide_eq_false (by simp))]
   exact ⟨_, lop_o hgo, .inr ⟨rfl, _, rfl⟩⟩
  | cons c r =>
   have hb : bat S ((S.length : Int) - (c :: r).length) = c.toNat := bat_get hs.get
   have hpos : (S.length : Int) - (c :: r).length + 1 = S.length - r.length := by rw [List.length_cons]; omega
   simp only [List.length_cons] at hn hsl
   have hlt : (S.length : Int) - (c :: r).length < S.length := by rw [List.length_cons]; omega
   have h0 : 0 ≤ (S.length : Int) - (c :: r).length := by rw [List.length_cons]; omega
   have hb1 : vRStr_b1 (b, ⟨S, p, cs, g⟩) (toI A) ((S.length : Int) - (c :: r).length) = cnd (decide (c = 34)) (some (.out (.ret (A, true, mkq S r cs g)))) (cnd (!okc c) (some (.out (.ret ([], false, mkq S r cs g)))) (cnd (decide (c = 92)) (chk (imp (!(decide ((S.length : Int) ≤ S.length - r.length))) (inR (S.length - r.length) (S.length : Int))) <| cnd (((decide ((S.length : Int) ≤ S.length - r.length)) || ((!decide ((bat S (S.length - r.length)) = 34)) && (!decide ((bat S (S.length - r.length)) = 92))))) (some (.out (.ret ([], false, mkq S r cs g)))) (chk (inR (S.length - r.length) (S.length : Int)) <| chk (inK .i64 (((S.length : Int) - r.length) + 1)) <| vRStr_j2 (toI A) (bat S (S.length - r.length)) (((S.length : Int) - r.length) + 1))) (vRStr_j2 (toI A) (c.toNat : Int) ((S.length : Int) - r.length)))) := by
    unfold vRStr_b1
    simp only
    rw [cnd_tt (decide_eq_true hlt), chk_inR h0 hlt, hb, hpos, chk_i64 (by omega) (by omega), int34, int92, okc_bat, ofI_snoc]
    rfl
   have hj : ∀ (x : UInt8) (y : Int), vRStr_j2 (toI A) (x.toNat : Int) y = some (.next (toI (A ++ [x]), y)) := fun x y => by
    unfold vRStr_j2
    rw [chk_inA (by simp [toI]; omega), toI_snoc]
   rw [strP_cons]
   cases h1 : decide (c = 34) with
   | true =>
    rw [h1] at hb1
    exact ⟨.ret (A, true, mkq S r cs g), lop_o hb1, .inl ⟨[], r, rfl, hs.tail, by rw [oute_ret, List.append_nil]⟩⟩
   | false =>
    rw [h1, cnd_ff rfl] at hb1
    simp only [cond_false, Bool.true_and]
    cases h2 : okc c with
    | false =>
     rw [h2, cnd_tt (p := !false) rfl] at hb1
     exact ⟨_, lop_o hb1, .inr ⟨rfl, _, rfl⟩⟩
    | true =>
     rw [h2, cnd_ff (p := !true) rfl] at hb1
     simp only [Bool.not_true, cond_false]
     cases h3 : decide (c = 92) with
     | true =>
      rw [h3, cnd_tt rfl] at hb1
      cases r with
      | nil =>
       have e : decide ((S.length : Int) ≤ S.length - ([] : Str).length) = true := by simp
       rw [e, chk_t (p := imp (!true) _) rfl, cnd_tt (p := true || _) rfl] at hb1
       exact ⟨_, lop_o hb1, .inr ⟨rfl, _, rfl⟩⟩
      | cons d r' =>
       simp only [List.length_cons] at hn hsl
       have hbd : bat S ((S.length : Int) - (d :: r').length) = d.toNat := bat_get hs.tail.get
       have hlt2 : (S.length : Int) - (d :: r').length < S.length := by rw [List.length_cons]; omega
       have h02 : 0 ≤ (S.length : Int) - (d :: r').length := by rw [List.length_cons]; omega
       have hpos2 : (S.length : Int) - (d :: r').length + 1 = S.length - r'.length := by rw [List.length_cons]; omega
       have e : decide ((S.length : Int) ≤ S.length - (d :: r').length) = false := decide_eq_false (by omega)
       rw [e, inR' h02 hlt2, hbd, hpos2, int34, int92, chk_t (p := imp (!false) true) rfl] at hb1
       simp only [cond_true]
       cases h4 : (decide (d = 34) || decide (d = 92)) with
       | false =>
        have e4 : (false || (!decide (d = 34) && !decide (d = 92))) = true := by rw [← Bool.not_or, h4]; rfl
        rw [cnd_tt e4] at hb1
        exact ⟨_, lop_o hb1, .inr ⟨rfl, _, rfl⟩⟩
       | true =>
        have e4 : (false || (!decide (d = 34) && !decide (d = 92))) = false := by rw [← Bool.not_or, h4]; rfl
        rw [cnd_ff e4, chk_t rfl, chk_i64 (by omega) (by omega), hj] at hb1
        obtain ⟨o, ho1, ho2⟩ := ih r'.length (by omega) L r' (A ++ [d]) rfl hs.tail.tail (by omega) (by rw [app1_len]; omega)
        refine ⟨o, lop_n hb1 ho1, ?_⟩
        simp only [cond_true]
        rcases ho2 with ⟨t, w, q1, q2, q3⟩ | ⟨q1, q2⟩
        ·rw [q1]; exact .inl ⟨d :: t, w, rfl, q2, by rw [q3]; simp⟩
        ·rw [q1]; exact .inr ⟨rfl, q2⟩
     | false =>
      rw [h3, cnd_ff rfl, hj] at hb1
      obtain ⟨o, ho1, ho2⟩ := ih r.length (by omega) L r (A ++ [c]) rfl hs.tail (by omega) (by rw [app1_len]; omega)
      refine ⟨o, lop_n hb1 ho1, ?_⟩
      simp only [cond_false]
      rcases ho2 with ⟨t, w, q1, q2, q3⟩ | ⟨q1, q2⟩
      ·rw [q1]; exact .inl ⟨c :: t, w, rfl, q2, by rw [q3]; simp⟩
      ·rw [q1]; exact .inr ⟨rfl, q2⟩
theorem vRStr_eq {F : Nat} {S u : Str} {cs : List TApiCell} {g : Bool} (hS : S.length ≤ 100000) (h : Suf u S) (hF : S.length < F) :
  (∃ r t w, u = 34 :: r ∧ strP true r = some (t, w) ∧ Suf w S ∧ vRStr F (mkq S u cs g) = some (t, true, mkq S w cs g)) ∨ ((∀ r, u = 34 :: r → strP true r = none) ∧ ∃ q', vRStr F (mkq S u cs g) = some ([], false, q')) := by
 unfold vRStr
 rw [vTake_eq hS h, pre1]
 cases u with
 | nil => exact .inr ⟨(fun r e => by cases e), _, rfl⟩
 | cons c r =>
  simp only
  cases hc : decide (c = 34) with
  | false =>
   simp only [decide_eq_false_iff_not] at hc
   exact .inr ⟨(fun r' e => by cases e; exact absurd rfl hc), _, rfl⟩
  | true =>
   simp only [decide_eq_true_eq] at hc
   subst hc
   have hl := h.len
   simp only [List.length_cons] at hl
   simp only [cond_true]
   rw [obn_s rfl, cnd_ff (p := !true) rfl]
   obtain ⟨o, ho1, ho2⟩ := vRStr_lop (b := true) (cs := cs) (g := g) (p := (S.length : Int) - r.length) hS r.length F r [] rfl h.tail (by omega) (Nat.zero_le _)
   have ho1' : lop (fun σ => vRStr_b1 (true, mkq S r cs g) σ.1 σ.2) F ([], (S.length : Int) - r.length) = some o := ho1
   rw [show (true, mkq S r cs g).2.fAt = (S.length : Int) - r.length from rfl, obn_s ho1']
   rcases ho2 with ⟨t, w, q1, q2, q3⟩ | ⟨q1, q', q2⟩
   ·exact .inl ⟨r, t, w, rfl, q1, q2, q3⟩
   ·exact .inr ⟨(fun r' e => by cases e; exact q1), q', q2⟩
end Go.Proofs.YtpmiamphppcfeaaGreatDoor

/-
 value's reader: integers and scalars. Plain laws.
-/
namespace Go.Proofs.YtpmiamphppcfeaaGreatDoor
open Go
set_option linter.unusedVariables false
set_option linter.unusedSimpArgs false
def fixC (c : TApiCell) : TApiCell := bif outC c then ⟨3, 0, [], 0⟩ else c
theorem digP_all : ∀ s : Str, (digP s).1.all isDig = true
 | [] => rfl
 | c :: r => by
  rw [digP]
  cases h : isDig c with
  | true => simp only [cond_true, List.all_cons, h, digP_all r]; rfl
  | false => rfl
theorem dig_bat {c : UInt8} : (decide (48 ≤ (c.toNat : Int)) && decide ((c.toNat : Int) ≤ 57)) = isDig c := by
 unfold isDig
 rw [Bool.eq_iff_iff]
 simp only [Bool.and_eq_true, decide_eq_true_eq]; omega
theorem vRInt_lop {S : Str} {cs : List TApiCell} {g b : Bool} {p : Int} (hS : S.length ≤ 100000) : ∀ (u : Str) (L : Nat), Suf u S → u.length < L →
  lop (fun σ => vRInt_b1 (b, ⟨S, p, cs, g⟩) σ) L ((S.length : Int) - u.length) = some (.go ((S.length : Int) - (digP u).2.length))
 | [], L, hs, hL => by
  obtain ⟨L, rfl⟩ : ∃ K, L = K + 1 := ⟨L - 1, by omega⟩
  refine lop_o ?_
  show vRInt_b1 _ _ = _
  unfold vRInt_b1
  have e : decide ((S.length : Int) - ([] : Str).length < (S.length : Int)) = false := by simp
  simp only
  rw [e, chk_t (p := imp false _) rfl, cnd_ff (p := false && _) rfl]; rfl
 | c :: r, L, hs, hL => by
  obtain ⟨L, rfl⟩ : ∃ K, L = K + 1 := ⟨L - 1, by omega⟩
  have hsl := hs.len
  have hb : bat S ((S.length : Int) - (c :: r).length) = c.toNat := bat_get hs.get
  have hpos : (S.length : Int) - (c :: r).length + 1 = S.length - r.length := by rw [List.length_cons]; omega
  simp only [List.length_cons] at hsl hL
  have hlt : (S.length : Int) - (c :: r).length < S.length := by rw [List.length_cons]; omega
  have h0 : 0 ≤ (S.length : Int) - (c :: r).length := by rw [List.length_cons]; omega
  have hb1 : vRInt_b1 (b, ⟨S, p, cs, g⟩) ((S.length : Int) - (c :: r).length) = cnd (isDig c) (some (.next ((S.length : Int) - r.length))) (some (.out (.go ((S.length : Int) - (c :: r).length)))) := by
   unfold vRInt_b1
   simp only
   rw [decide_eq_true hlt, inR' h0 hlt, chk_t (p := imp true true) rfl, hb, dig_bat, hpos, chk_i64 (by omega) (by omega), Bool.true_and]
  rw [digP]
  cases hd : isDig c with
  | true =>
   rw [hd] at hb1
   exact lop_n hb1 (vRInt_lop hS r L hs.tail (by omega))
  | false =>
   rw [hd] at hb1
   exact lop_o hb1
theorem vRInt_eq {F : Nat} {S u : Str} {cs : List TApiCell} {g : Bool} (hS : S.length ≤ 100000) (h : Suf u S) (hF : S.length < F) (hcs : cs.length ≤ 100000) :
  (∃ f w, intP u = some (f, w) ∧ Suf w S ∧ vRInt F (mkq S u cs g) = some (true, mkq S w (cs ++ f.flat.map fixC) (g || f.flat.any outC))) ∨ (intP u = none ∧ ∃ q', vRInt F (mkq S u cs g) = some (false, q')) := by
 have hl := h.len
 have hneg : ∃ neg r b, neg = decide (u.head? = some 45) ∧ r = (bif neg then u.tail else u) ∧ vTake (mkq S u cs g) [45] = some (b, mkq S r cs g) ∧ u = (bif neg then 45 :: r else r) := by
  rw [vTake_eq hS h, pre1]
  cases u with
  | nil => exact ⟨false, [], false, rfl, rfl, rfl, rfl⟩
  | cons c r =>
   simp only [List.head?_cons, Option.some.injEq]
   cases hc : decide (c = 45) with
   | true => simp only [decide_eq_true_eq] at hc; subst hc; exact ⟨true, r, true, rfl, rfl, rfl, rfl⟩
   | false => exact ⟨false, c :: r, false, rfl, rfl, rfl, rfl⟩
 obtain ⟨neg, r, b, e1, e2, e3, e4⟩ := hneg
 have hr : Suf r S := by
  rw [e4] at h
  cases neg with
  | true => exact h.tail
  | false => exact h
 have hrl := hr.len
 have hd := digP_all r
 have hsplit := digP_eq r
 have hlen : r.length = (digP r).1.length + (digP r).2.length := by conv => lhs; rw [hsplit, List.length_append]
 have hw : Suf (digP r).2 S := by rw [hsplit] at hr; exact hr.app
 have hut : u = txtD neg (digP r).1 ++ (digP r).2 := by
  rw [e4]
  cases neg with
  | true => show 45 :: r = 45 :: ((digP r).1 ++ (digP r).2); rw [← hsplit]
  | false => exact hsplit
 have hul : u.length = (txtD neg (digP r).1).length + (digP r).2.length := by conv => lhs; rw [hut, List.length_append]
 have hslice : List.take (Int.toNat ((S.length : Int) - (digP r).2.length) - Int.toNat ((S.length : Int) - u.length)) (List.drop (Int.toNat ((S.length : Int) - u.length)) S) = txtD neg (digP r).1 := by
  rw [h.drop, show Int.toNat ((S.length : Int) - (digP r).2.length) - Int.toNat ((S.length : Int) - u.length) = (txtD neg (digP r).1).length from by omega]
  conv => lhs; rw [hut]
  rw [List.take_left]
 have hlop : lop (fun σ => vRInt_b1 (b, mkq S r cs g) σ) F ((S.length : Int) - r.length) = some (.go ((S.length : Int) - (digP r).2.length)) := vRInt_lop hS r F hr (by omega)
 have hrun : vRInt F (mkq S u cs g) = cnd (((decide ((parseE (txtD neg (digP r).1)) = 1)) || (decide ((S.length : Int) - r.length = (S.length : Int) - (digP r).2.length)))) (some (false, mkq S (digP r).2 cs g)) (some (true, mkq S (digP r).2 (cs ++ [⟨3, parseV (txtD neg (digP r).1), [], 0⟩]) (g || !decide (parseE (txtD neg (digP r).1) = 0)))) := by
  unfold vRInt
  rw [e3, obn_s rfl, show (b, mkq S r cs g).2.fAt = (S.length : Int) - r.length from rfl, obn_s hlop, oute_go]
  unfold vRInt_k1
  rw [show (mkq S u cs g).fAt = (S.length : Int) - u.length from rfl, show (b, mkq S r cs g).2.fS = S from rfl, show (b, mkq S r cs g).2.fAt = (S.length : Int) - r.length from rfl, chk_inC (by omega) (by omega), chk_inC (by omega) (by omega), hslice, chk_inA (by omega), chk_t (p := inA 40 _) (decide_eq_true (by
   show (cs.length + 1) * 40 ≤ 140737488355328
   omega))]
  rfl
 rw [hrun]
 unfold intP
 simp only
 rw [← e1, ← e2]
 rcases parse_txt (neg := neg) hd with ⟨p1, p2⟩ | ⟨p1, p2, p3, p4⟩ | ⟨p1, p2, p3, p4⟩
 ·rw [p1, p2]; exact .inr ⟨rfl, _, rfl⟩
 ·have hne : (digP r).1 ≠ [] := by
   intro e
   rw [e] at p1
   cases neg <;> cases p1
  have hpos : 0 < (digP r).1.length := List.length_pos_iff.2 hne
  rw [p1, p3, p4, decide_eq_false (show ¬ (S.length : Int) - r.length = (S.length : Int) - (digP r).2.length by omega)]
  refine .inl ⟨_, _, rfl, hw, ?_⟩
  simp [Fo.flat, keyC, fixC, p2, cnd]
 ·have hne : (digP r).1 ≠ [] := by
   intro e
   rw [e] at p1
   cases neg <;> cases p1
  have hpos : 0 < (digP r).1.length := List.length_pos_iff.2 hne
  rw [p1, p3, p4, decide_eq_false (show ¬ (S.length : Int) - r.length = (S.length : Int) - (digP r).2.length by omega)]
  refine .inl ⟨_, _, rfl, hw, ?_⟩
  simp [Fo.flat, keyC, fixC, p2, cnd]
def scal (strict : Bool) (s : Str) : Option (Fo × Str) :=
 match pre [110, 117, 108, 108] s with
 | some r => some (lf 1 0 [], r)
 | none => match pre [116, 114, 117, 101] s with
  | some r => some (lf 2 1 [], r)
  | none => match pre [102, 97, 108, 115, 101] s with
   | some r => some (lf 2 0 [], r)
   | none => match s with
    | [] => none
    | c :: r => bif decide (c = 34) then (match strP strict r with
     | none => none
     | some (t, u) => some (lf 4 0 t, u)) else intP (c :: r)
theorem par_scal (b : Bool) (F : Nat) {s : Str} (h : ∀ c r, s = c :: r → (decide (c = 91) || decide (c = 123)) = false) : par b (F + 1) s = scal b s := by
 rw [par_succ]
 unfold scal
 cases pre [110, 117, 108, 108] s with
 | some r => rfl
 | none =>
 cases pre [116, 114, 117, 101] s with
 | some r => rfl
 | none =>
 cases pre [102, 97, 108, 115, 101] s with
 | some r => rfl
 | none =>
 cases s with
 | nil => rfl
 | cons c r =>
  simp only
  rw [h c r rfl]; rfl
theorem vRScalar_eq {F : Nat} {S u : Str} {cs : List TApiCell} {g : Bool} (hS : S.length ≤ 100000) (h : Suf u S) (hF : S.length < F) (hcs : cs.length ≤ 100000) :
  (∃ f w, scal true u = some (f, w) ∧ Suf w S ∧ vRScalar F (mkq S u cs g) = some (true, mkq S w (cs ++ f.flat.map fixC) (g || f.flat.any outC))) ∨ (scal true u = none ∧ ∃ q', vRScalar F (mkq S u cs g) = some (false, q')) := by
 have hA : ∀ c : TApiCell, inA 40 (cs.length + ([c] : List TApiCell).length) = true := fun c => decide_eq_true (by show (cs.length + 1) * 40 ≤ 140737488355328; omega)
 unfold vRScalar scal
 rw [vTake_eq hS h]
 cases h1 : pre [110, 117, 108, 108] u with
 | some r =>
  have hr : Suf r S := by rw [pre_len h1] at h; exact h.app
  refine .inl ⟨_, r, rfl, hr, ?_⟩
  simp only
  rw [obn_s rfl, cnd_tt rfl]
  show chk (inA 40 (cs.length + ([⟨1, 0, [], 0⟩] : List TApiCell).length)) (some (true, mkq S r (cs ++ [⟨1, 0, [], 0⟩]) g)) = _
  rw [chk_t (hA _)]
  simp [lf, Fo.flat, keyC, fixC, outC]
 | none =>
 simp only
 rw [obn_s rfl, cnd_ff rfl, show (false, mkq S u cs g).2 = mkq S u cs g from rfl, vTake_eq hS h]
 cases h2 : pre [116, 114, 117, 101] u with
 | some r =>
  have hr : Suf r S := by rw [pre_len h2] at h; exact h.app
  refine .inl ⟨_, r, rfl, hr, ?_⟩
  simp only
  rw [obn_s rfl, cnd_tt rfl]
  show chk (inA 40 (cs.length + ([⟨2, 1, [], 0⟩] : List TApiCell).length)) (some (true, mkq S r (cs ++ [⟨2, 1, [], 0⟩]) g)) = _
  rw [chk_t (hA _)]
  simp [lf, Fo.flat, keyC, fixC, outC]
 | none =>
 simp only
 rw [obn_s rfl, cnd_ff rfl, show (false, mkq S u cs g).2 = mkq S u cs g from rfl, vTake_eq hS h]
 cases h3 : pre [102, 97, 108, 115, 101] u with
 | some r =>
  have hr : Suf r S := by rw [pre_len h3] at h; exact h.app
  refine .inl ⟨_, r, rfl, hr, ?_⟩
  simp only
  rw [obn_s rfl, cnd_tt rfl]
  show chk (inA 40 (cs.length + ([⟨2, 0, [], 0⟩] : List TApiCell).length)) (some (true, mkq S r (cs ++ [⟨2, 0, [], 0⟩]) g)) = _
  rw [chk_t (hA _)]
  simp [lf, Fo.flat, keyC, fixC, outC]
 | none =>
 have hl := h.len
 simp only
 rw [obn_s rfl, cnd_ff rfl, show (false, mkq S u cs g).2 = mkq S u cs g from rfl, show (mkq S u cs g).fAt = (S.length : Int) - u.length from rfl, show (mkq S u cs g).fS = S from rfl, chk_inC (by omega) (by omega), h.drop, hasPrefix_eq, obn_s rfl, pre1]
 cases u with
 | nil =>
  simp only
  rw [cnd_ff (p := (none : Option Str).isSome) rfl]
  rcases vRInt_eq (g := g) hS h hF hcs with ⟨f, w, q1, q2, q3⟩ | ⟨q1, q', q2⟩
  ·exact absurd (intP_len q1) (by simp)
  ·rw [q2]; exact .inr ⟨trivial, _, rfl⟩
 | cons c r =>
  simp only
  cases hc : decide (c = 34) with
  | true =>
   simp only [cond_true]
   rw [cnd_tt (p := (some r).isSome) rfl]
   simp only [decide_eq_true_eq] at hc
   subst hc
   rcases vRStr_eq (cs := cs) (g := g) hS h hF with ⟨r', t, w, q1, q2, q3, q4⟩ | ⟨q1, q', q2⟩
   ·cases q1
    rw [q2, q4, obn_s rfl, cnd_ff (p := !true) rfl]
    refine .inl ⟨_, w, rfl, q3, ?_⟩
    simp only
    show chk (inA 40 (cs.length + ([⟨4, 0, t, 0⟩] : List TApiCell).length)) (some (true, mkq S w (cs ++ [⟨4, 0, t, 0⟩]) g)) = _
    rw [chk_t (hA _)]
    simp [lf, Fo.flat, keyC, fixC, outC]
   ·rw [q1 r rfl, q2, obn_s rfl]
    exact .inr ⟨rfl, _, rfl⟩
  | false =>
   simp only [cond_false]
   rw [cnd_ff (p := (none : Option Str).isSome) rfl]
   rcases vRInt_eq (g := g) hS h hF hcs with ⟨f, w, q1, q2, q3⟩ | ⟨q1, q', q2⟩
   ·rw [q3, obn_s rfl]; exact .inl ⟨f, w, q1, q2, rfl⟩
   ·rw [q2, obn_s rfl]; exact .inr ⟨q1, _, rfl⟩
end Go.Proofs.YtpmiamphppcfeaaGreatDoor

/-
 value's reader of values, told by the plain reader of bytes. Plain laws.
-/
namespace Go.Proofs.YtpmiamphppcfeaaGreatDoor
open Go
set_option linter.unusedVariables false
set_option linter.unusedSimpArgs false
theorem put_cnt {f : Fo} (h : f.one = true) (key : Option Str) (r : Fo) : (f.put key r).cnt = r.cnt + 1 := by
 cases f with
 | nil => cases h
 | cell _ _ _ => rfl
 | node _ _ _ _ => rfl
theorem nd_flat (m : Bool) (g : Fo) (h : g.cnt = 0 → g = .nil) : (nd m g).flat = ⟨bif m then 6 else 5, 0, [], (g.cnt : Int)⟩ :: g.flat := by
 unfold nd
 cases hd : decide (g.cnt = 0) with
 | true =>
  simp only [decide_eq_true_eq] at hd
  rw [h hd]; rfl
 | false => simp [Fo.flat, keyC]
theorem cnt_nil {g : Fo} (h : g.cnt = 0) : g = .nil := by
 cases g with
 | nil => rfl
 | cell _ _ _ => simp [Fo.cnt] at h
 | node _ _ _ _ => simp [Fo.cnt] at h
theorem keyP_flat {b m : Bool} {last key : Option Str} {s u : Str} (h : keyP b m last s = some (key, u)) : (keyC key).length + u.length ≤ s.length := by
 unfold keyP at h
 cases m with
 | false => cases h; simp [keyC]
 | true =>
  simp only [cond_true] at h
  cases s with
  | nil => cases h
  | cons c r =>
   simp only at h
   cases h1 : decide (c = 34) with
   | false => rw [h1] at h; cases h
   | true =>
    rw [h1] at h
    simp only [cond_true] at h
    cases h2 : strP b r with
    | none => rw [h2] at h; cases h
    | some q =>
     obtain ⟨k, w⟩ := q
     have := strP_len b _ r k w rfl h2
     rw [h2] at h
     simp only at h
     cases h3 : (b && !keyOk true last (some k)) with
     | true => rw [h3] at h; cases h
     | false =>
      rw [h3] at h
      simp only [cond_false] at h
      cases w with
      | nil => cases h
      | cons d w' =>
       simp only at h
       cases h4 : decide (d = 58) with
       | false => rw [h4] at h; cases h
       | true => rw [h4] at h; cases h; simp only [List.length_cons, keyC, List.length_nil] at this ⊢; omega
theorem par_flat (b : Bool) : ∀ F : Nat, (∀ s f u, par b F s = some (f, u) → f.flat.length + u.length ≤ s.length) ∧ (∀ m last s g u, parL b F m last s = some (g, u) → g.flat.length + u.length + 1 ≤ s.length)
 | 0 => ⟨(fun s f u h => by rw [par.eq_def] at h; cases h), (fun m last s g u h => by rw [parL.eq_def] at h; cases h)⟩
 | F + 1 => by
  obtain ⟨ih1, ih2⟩ := par_flat b F
  have lfl : ∀ k i t, (lf k i t).flat.length = 1 := fun _ _ _ => rfl
  constructor
  ·intro s f u h
   rw [par_succ] at h
   cases h1 : pre [110, 117, 108, 108] s with
   | some r => rw [h1] at h; cases h; rw [pre_len h1, lfl]; simp; omega
   | none =>
   rw [h1] at h; simp only at h
   cases h2 : pre [116, 114, 117, 101] s with
   | some r => rw [h2] at h; cases h; rw [pre_len h2, lfl]; simp; omega
   | none =>
   rw [h2] at h; simp only at h
   cases h3 : pre [102, 97, 108, 115, 101] s with
   | some r => rw [h3] at h; cases h; rw [pre_len h3, lfl]; simp; omega
   | none =>
   rw [h3] at h; simp only at h
   cases s with
   | nil => cases h
   | cons c r =>
   simp only at h
   cases h4 : decide (c = 34) with
   | true =>
    rw [h4] at h; simp only [cond_true] at h
    cases h5 : strP b r with
    | none => rw [h5] at h; cases h
    | some q =>
     obtain ⟨t, w⟩ := q
     rw [h5] at h; cases h
     have := strP_len b _ r t u rfl h5
     rw [lfl]; simp only [List.length_cons]; omega
   | false =>
   rw [h4] at h; simp only [cond_false] at h
   cases h5 : (decide (c = 91) || decide (c = 123)) with
   | false =>
    rw [h5] at h; simp only [cond_false] at h
    have h6 := intP_len h
    have h7 : f.flat.length = 1 := by
     unfold intP at h
     simp only at h
     cases hc : canon (decide ((c :: r).head? = some 45)) (digP (bif decide ((c :: r).head? = some 45) then (c :: r).tail else c :: r)).1 with
     | false => rw [hc] at h; cases h
     | true => rw [hc] at h; cases h; rfl
    omega
   | true =>
   rw [h5] at h; simp only [cond_true] at h
   cases r with
   | nil => cases h
   | cons d r' =>
   simp only at h
   cases h6 : decide (d = closeC (decide (c = 123))) with
   | true => rw [h6] at h; cases h; rw [nd_flat _ _ cnt_nil]; simp [Fo.flat]; omega
   | false =>
   rw [h6] at h; simp only [cond_false] at h
   cases h7 : parL b F (decide (c = 123)) none (d :: r') with
   | none => rw [h7] at h; cases h
   | some q =>
    obtain ⟨g, w⟩ := q
    rw [h7] at h; cases h
    have := ih2 _ _ _ _ _ h7
    rw [nd_flat _ _ cnt_nil]
    simp only [List.length_cons] at this ⊢; omega
  ·intro m last s g u h
   rw [parL_succ] at h
   cases h1 : keyP b m last s with
   | none => rw [h1] at h; cases h
   | some q =>
   obtain ⟨key, s1⟩ := q
   have l1 := keyP_flat h1
   rw [h1] at h; simp only at h
   cases h2 : par b F s1 with
   | none => rw [h2] at h; cases h
   | some q =>
   obtain ⟨f, s2⟩ := q
   have l2 := ih1 _ _ _ h2
   have o2 := ((par_len b F).1 _ _ _ h2).2
   rw [h2] at h; simp only at h
   cases s2 with
   | nil => cases h
   | cons c s3 =>
   simp only [List.length_cons] at l2
   simp only at h
   cases h3 : decide (c = closeC m) with
   | true => rw [h3] at h; cases h; rw [put_flat o2, List.length_append, List.length_append]; simp only [Fo.flat, List.length_nil]; omega
   | false =>
   rw [h3] at h; simp only [cond_false] at h
   cases h4 : decide (c = 44) with
   | false => rw [h4] at h; cases h
   | true =>
   rw [h4] at h; simp only [cond_true] at h
   cases h5 : parL b F m key s3 with
   | none => rw [h5] at h; cases h
   | some q =>
    obtain ⟨g', w⟩ := q
    rw [h5] at h; cases h
    have := ih2 _ _ _ _ _ h5
    rw [put_flat o2, List.length_append, List.length_append]; omega
theorem set_mid {α : Type} (xs D : List α) (a b : α) : List.set (xs ++ a :: D) (Int.toNat (xs.length : Int)) b = xs ++ b :: D := by
 rw [show Int.toNat (xs.length : Int) = xs.length from by omega, List.set_append_right _ _ (Nat.le_refl _)]; simp
theorem at_mid {α : Type} [Inhabited α] (xs D : List α) (a : α) : at' (xs ++ a :: D) (xs.length : Int) = a := by simp [at']
def VOk (F P : Nat) (S u : Str) (cs : List TApiCell) (g : Bool) : Prop :=
 (∃ f w, par true P u = some (f, w) ∧ Suf w S ∧ vRValue F (mkq S u cs g) = some (true, mkq S w (cs ++ f.flat.map fixC) (g || f.flat.any outC))) ∨ (par true P u = none ∧ ∃ q', vRValue F (mkq S u cs g) = some (false, q'))
abbrev LB2 (F : Nat) (x16 : List TApiCell) : Int × Str × Int × List TApiCell × Bool → Option (Stp (Int × Str × Int × List TApiCell × Bool) (Out (Bool × TValueReader) Unit)) := fun σ => vRValue_b2 (vRValue F) x16 σ.1 σ.2.1 σ.2.2.1 σ.2.2.2.1 σ.2.2.2.2
abbrev LB3 (F : Nat) (x16 : List TApiCell) : Str × Int × Str × Int × List TApiCell × Bool → Option (Stp (Str × Int × Str × Int × List TApiCell × Bool) (Out (Bool × TValueReader) Unit)) := fun σ => vRValue_b3 F (vRValue F) x16 σ.1 σ.2.1 σ.2.2.1 σ.2.2.2.1 σ.2.2.2.2.1 σ.2.2.2.2.2
def LOk (P : Nat) (m : Bool) (last : Option Str) (S u : Str) (x16 D : List TApiCell) (k : Int) (g : Bool) (o : Out (Bool × TValueReader) Unit) : Prop :=
 (∃ G w, parL true P m last u = some (G, w) ∧ Suf w S ∧ o = .ret (true, mkq S w (x16 ++ ⟨bif m then 6 else 5, 0, [], k - 1 + (G.cnt : Int)⟩ :: (D ++ G.flat.map fixC)) (g || G.flat.any outC))) ∨ (parL true P m last u = none ∧ ∃ q', o = .ret (false, q'))
theorem fix_key (k : Option Str) : (keyC k).map fixC = keyC k ∧ (keyC k).any outC = false := by
 cases k with
 | none => exact ⟨rfl, rfl⟩
 | some s => exact ⟨by simp [keyC, fixC, outC], by simp [keyC, outC]⟩
theorem LOk.join {P : Nat} {m : Bool} {last key : Option Str} {S u s1 s2 : Str} {x16 D : List TApiCell} {k : Int} {g : Bool} {o : Out (Bool × TValueReader) Unit} {f : Fo} (hk : keyP true m last u = some (key, s1)) (hf : par true P s1 = some (f, s2)) (ho : f.one = true)
  (h : (∃ s3, s2 = closeC m :: s3 ∧ Suf s3 S ∧ o = .ret (true, mkq S s3 (x16 ++ ⟨bif m then 6 else 5, 0, [], k⟩ :: (D ++ (keyC key ++ f.flat.map fixC))) (g || f.flat.any outC))) ∨ (∃ s3, s2 = 44 :: s3 ∧ LOk P m key S s3 x16 (D ++ (keyC key ++ f.flat.map fixC)) (k + 1) (g || f.flat.any outC) o) ∨ ((∀ c s3, s2 = c :: s3 → decide (c = closeC m) = false ∧ decide (c = 44) = false) ∧ ∃ q', o = .ret (false, q'))) : LOk (P + 1) m last S u x16 D k g o := by
 obtain ⟨fk1, fk2⟩ := fix_key key
 unfold LOk
 rw [parL_succ, hk]
 simp only [hf]
 have h44 : decide ((44 : UInt8) = closeC m) = false := by cases m <;> rfl
 rcases h with ⟨s3, rfl, h1, h2⟩ | ⟨s3, rfl, h⟩ | ⟨h1, h2⟩
 ·simp only [decide_true, cond_true]
  refine .inl ⟨_, s3, rfl, h1, ?_⟩
  rw [h2, put_cnt ho, put_flat ho]
  simp only [Fo.flat, Fo.cnt, List.append_nil, List.map_append, List.any_append, fk1, fk2, Bool.false_or]
  congr 6
  omega
 ·simp only [h44, cond_false, decide_true, cond_true]
  rcases h with ⟨G, w, q1, q2, q3⟩ | ⟨q1, q2⟩
  ·rw [q1]
   refine .inl ⟨_, w, rfl, q2, ?_⟩
   rw [q3, put_cnt ho, put_flat ho]
   simp only [List.map_append, List.any_append, fk1, fk2, Bool.false_or, Bool.or_assoc, List.append_assoc]
   congr 6
   omega
  ·rw [q1]; exact .inr ⟨rfl, q2⟩
 ·refine .inr ⟨?_, h2⟩
  cases s2 with
  | nil => rfl
  | cons c s3 =>
   obtain ⟨a, b⟩ := h1 c s3 rfl
   simp only [a, b, cond_false]
end Go.Proofs.YtpmiamphppcfeaaGreatDoor

/-
 value's reader of values does what the plain reader of bytes does. Plain laws.
-/
namespace Go.Proofs.YtpmiamphppcfeaaGreatDoor
open Go
set_option linter.unusedVariables false
set_option linter.unusedSimpArgs false
theorem mkq_eta (S u : Str) (cs : List TApiCell) (g : Bool) : TValueReader.mk S ((S.length : Int) - u.length) cs g = mkq S u cs g := rfl
theorem oute_k2 {o : Out (Bool × TValueReader) Unit} {r : Bool × TValueReader} {K : Unit → Option (Bool × TValueReader)} (h : o = .ret r) : oute K o = some r := by rw [h]; rfl
theorem chk_A40 {α : Type} {n : Nat} {x : Option α} (h : n ≤ 1000000) : chk (inA 40 n) x = x := chk_t (decide_eq_true (by omega))
theorem list_round {F P : Nat} {S u : Str} {x16 D : List TApiCell} {k : Int} {g : Bool} (hS : S.length ≤ 100000) (hs : Suf u S) (hk1 : 1 ≤ k) (hk2 : k ≤ 200000) (hV : VOk F P S u (x16 ++ ⟨5, 0, [], k - 1⟩ :: D) g) :
  (∃ q', LB2 F x16 (k, S, (S.length : Int) - u.length, x16 ++ ⟨5, 0, [], k - 1⟩ :: D, g) = some (.out (.ret (false, q'))) ∧ (par true P u = none ∨ ∃ f s2, par true P u = some (f, s2) ∧ ∀ c s3, s2 = c :: s3 → decide (c = closeC false) = false ∧ decide (c = 44) = false)) ∨
  ∃ f s2, par true P u = some (f, s2) ∧ Suf s2 S ∧ ((∃ s3, s2 = closeC false :: s3 ∧ LB2 F x16 (k, S, (S.length : Int) - u.length, x16 ++ ⟨5, 0, [], k - 1⟩ :: D, g) = some (.out (.ret (true, mkq S s3 (x16 ++ ⟨5, 0, [], k⟩ :: (D ++ f.flat.map fixC)) (g || f.flat.any outC))))) ∨
   (∃ s3, s2 = 44 :: s3 ∧ LB2 F x16 (k, S, (S.length : Int) - u.length, x16 ++ ⟨5, 0, [], k - 1⟩ :: D, g) = some (.next (k + 1, S, (S.length : Int) - s3.length, x16 ++ ⟨5, 0, [], k⟩ :: (D ++ f.flat.map fixC), g || f.flat.any outC)))) := by
 have hb : LB2 F x16 (k, S, (S.length : Int) - u.length, x16 ++ ⟨5, 0, [], k - 1⟩ :: D, g) = vRValue_b2 (vRValue F) x16 k S ((S.length : Int) - u.length) (x16 ++ ⟨5, 0, [], k - 1⟩ :: D) g := rfl
 rw [hb]
 unfold vRValue_b2
 rw [mkq_eta]
 rcases hV with ⟨f, s2, q1, q2, q3⟩ | ⟨q1, q', q2⟩
 ·have ec : (x16 ++ ⟨5, 0, [], k - 1⟩ :: D) ++ f.flat.map fixC = x16 ++ ⟨5, 0, [], k - 1⟩ :: (D ++ f.flat.map fixC) := by simp
  rw [ec] at q3
  rw [q3, obn_s rfl, cnd_ff (p := !true) rfl]
  have hin : inR (x16.length : Int) (((x16 ++ (⟨5, 0, [], k - 1⟩ : TApiCell) :: (D ++ f.flat.map fixC)).length : Nat) : Int) = true := inR' (by omega) (by rw [List.length_append, List.length_cons]; omega)
  have e1 : (true, mkq S s2 (x16 ++ ⟨5, 0, [], k - 1⟩ :: (D ++ f.flat.map fixC)) (g || f.flat.any outC)).2.fCells = x16 ++ ⟨5, 0, [], k - 1⟩ :: (D ++ f.flat.map fixC) := rfl
  rw [e1, chk_t hin, at_mid, set_mid, bnd_s]
  have e2 : TValueReader.mk (true, mkq S s2 (x16 ++ ⟨5, 0, [], k - 1⟩ :: (D ++ f.flat.map fixC)) (g || f.flat.any outC)).2.fS (true, mkq S s2 (x16 ++ ⟨5, 0, [], k - 1⟩ :: (D ++ f.flat.map fixC)) (g || f.flat.any outC)).2.fAt (x16 ++ ⟨5, 0, [], k⟩ :: (D ++ f.flat.map fixC)) (true, mkq S s2 (x16 ++ ⟨5, 0, [], k - 1⟩ :: (D ++ f.flat.map fixC)) (g || f.flat.any outC)).2.fGreat = mkq S s2 (x16 ++ ⟨5, 0, [], k⟩ :: (D ++ f.flat.map fixC)) (g || f.flat.any outC) := rfl
  rw [e2, vTake_eq hS q2, pre1]
  cases s2 with
  | nil =>
   simp only
   rw [obn_s rfl, cnd_ff rfl, vTake_eq hS q2, pre1]
   exact .inl ⟨_, rfl, .inr ⟨f, [], q1, fun c s3 e => by cases e⟩⟩
  | cons c s3 =>
   simp only
   cases h93 : decide (c = 93) with
   | true =>
    simp only [decide_eq_true_eq] at h93
    subst h93
    exact .inr ⟨f, _, q1, q2, .inl ⟨s3, rfl, rfl⟩⟩
   | false =>
    simp only [cond_false]
    rw [obn_s rfl, cnd_ff rfl, vTake_eq hS q2, pre1]
    simp only
    cases h44 : decide (c = 44) with
    | true =>
     simp only [decide_eq_true_eq] at h44
     subst h44
     simp only [cond_true]
     rw [obn_s rfl, cnd_ff (p := !true) rfl, chk_i64 (by omega) (by omega)]
     exact .inr ⟨f, _, q1, q2, .inr ⟨s3, rfl, rfl⟩⟩
    | false =>
     exact .inl ⟨_, rfl, .inr ⟨f, _, q1, fun c' s3' e => by cases e; exact ⟨h93, h44⟩⟩⟩
 ·rw [q2, obn_s rfl]
  exact .inl ⟨q', rfl, .inl q1⟩
theorem map_tail {F P : Nat} {S u : Str} {x16 D : List TApiCell} {k : Int} {g b1 b2 : Bool} {r : Str × Bool × TValueReader} (hS : S.length ≤ 100000) (hs : Suf u S) (hk1 : 1 ≤ k) (hk2 : k ≤ 200000) (hD : x16.length + D.length ≤ 200000) (hV : VOk F P S u (x16 ++ ⟨6, 0, [], k - 1⟩ :: (D ++ [⟨4, 0, r.1, 0⟩])) g) :
  (∃ q', vRValue_j4 (vRValue F) x16 k r b1 b2 false S ((S.length : Int) - u.length) (x16 ++ ⟨6, 0, [], k - 1⟩ :: D) g = some (.out (.ret (false, q'))) ∧ (par true P u = none ∨ ∃ f s2, par true P u = some (f, s2) ∧ ∀ c s3, s2 = c :: s3 → decide (c = closeC true) = false ∧ decide (c = 44) = false)) ∨
  ∃ f s2, par true P u = some (f, s2) ∧ Suf s2 S ∧ ((∃ s3, s2 = closeC true :: s3 ∧ vRValue_j4 (vRValue F) x16 k r b1 b2 false S ((S.length : Int) - u.length) (x16 ++ ⟨6, 0, [], k - 1⟩ :: D) g = some (.out (.ret (true, mkq S s3 (x16 ++ ⟨6, 0, [], k⟩ :: (D ++ ([⟨4, 0, r.1, 0⟩] ++ f.flat.map fixC))) (g || f.flat.any outC))))) ∨
   (∃ s3, s2 = 44 :: s3 ∧ vRValue_j4 (vRValue F) x16 k r b1 b2 false S ((S.length : Int) - u.length) (x16 ++ ⟨6, 0, [], k - 1⟩ :: D) g = some (.next (r.1, k + 1, S, (S.length : Int) - s3.length, x16 ++ ⟨6, 0, [], k⟩ :: (D ++ ([⟨4, 0, r.1, 0⟩] ++ f.flat.map fixC)), g || f.flat.any outC)))) := by
 unfold vRValue_j4
 have e0 : (x16 ++ ⟨6, 0, [], k - 1⟩ :: D) ++ ([⟨4, 0, r.1, 0⟩] : List TApiCell) = x16 ++ ⟨6, 0, [], k - 1⟩ :: (D ++ [⟨4, 0, r.1, 0⟩]) := by simp
 rw [cnd_ff rfl, chk_A40 (by rw [List.length_append, List.length_cons, List.length_singleton]; omega), e0, mkq_eta]
 rcases hV with ⟨f, s2, q1, q2, q3⟩ | ⟨q1, q', q2⟩
 ·have ec : (x16 ++ ⟨6, 0, [], k - 1⟩ :: (D ++ [⟨4, 0, r.1, 0⟩])) ++ f.flat.map fixC = x16 ++ ⟨6, 0, [], k - 1⟩ :: (D ++ ([⟨4, 0, r.1, 0⟩] ++ f.flat.map fixC)) := by simp
  rw [ec] at q3
  rw [q3, obn_s rfl, cnd_ff (p := !true) rfl]
  have hin : inR (x16.length : Int) (((x16 ++ (⟨6, 0, [], k - 1⟩ : TApiCell) :: (D ++ ([⟨4, 0, r.1, 0⟩] ++ f.flat.map fixC))).length : Nat) : Int) = true := inR' (by omega) (by rw [List.length_append, List.length_cons]; omega)
  have e1 : (true, mkq S s2 (x16 ++ ⟨6, 0, [], k - 1⟩ :: (D ++ ([⟨4, 0, r.1, 0⟩] ++ f.flat.map fixC))) (g || f.flat.any outC)).2.fCells = x16 ++ ⟨6, 0, [], k - 1⟩ :: (D ++ ([⟨4, 0, r.1, 0⟩] ++ f.flat.map fixC)) := rfl
  rw [e1, chk_t hin, at_mid, set_mid, bnd_s]
  have e2 : TValueReader.mk (true, mkq S s2 (x16 ++ ⟨6, 0, [], k - 1⟩ :: (D ++ ([⟨4, 0, r.1, 0⟩] ++ f.flat.map fixC))) (g || f.flat.any outC)).2.fS (true, mkq S s2 (x16 ++ ⟨6, 0, [], k - 1⟩ :: (D ++ ([⟨4, 0, r.1, 0⟩] ++ f.flat.map fixC))) (g || f.flat.any outC)).2.fAt (x16 ++ ⟨6, 0, [], k⟩ :: (D ++ ([⟨4, 0, r.1, 0⟩] ++ f.flat.map fixC))) (true, mkq S s2 (x16 ++ ⟨6, 0, [], k - 1⟩ :: (D ++ ([⟨4, 0, r.1, 0⟩] ++ f.flat.map fixC))) (g || f.flat.any outC)).2.fGreat = mkq S s2 (x16 ++ ⟨6, 0, [], k⟩ :: (D ++ ([⟨4, 0, r.1, 0⟩] ++ f.flat.map fixC))) (g || f.flat.any outC) := rfl
  rw [e2, vTake_eq hS q2, pre1]
  cases s2 with
  | nil =>
   simp only
   rw [obn_s rfl, cnd_ff rfl, vTake_eq hS q2, pre1]
   exact .inl ⟨_, rfl, .inr ⟨f, [], q1, fun c s3 e => by cases e⟩⟩
  | cons c s3 =>
   simp only
   cases h93 : decide (c = 125) with
   | true =>
    simp only [decide_eq_true_eq] at h93
    subst h93
    exact .inr ⟨f, _, q1, q2, .inl ⟨s3, rfl, rfl⟩⟩
   | false =>
    simp only [cond_false]
    rw [obn_s rfl, cnd_ff rfl, vTake_eq hS q2, pre1]
    simp only
    cases h44 : decide (c = 44) with
    | true =>
     simp only [decide_eq_true_eq] at h44
     subst h44
     simp only [cond_true]
     rw [obn_s rfl, cnd_ff (p := !true) rfl, chk_i64 (by omega) (by omega)]
     exact .inr ⟨f, _, q1, q2, .inr ⟨s3, rfl, rfl⟩⟩
    | false =>
     exact .inl ⟨_, rfl, .inr ⟨f, _, q1, fun c' s3' e => by cases e; exact ⟨h93, h44⟩⟩⟩
 ·rw [q2, obn_s rfl]
  exact .inl ⟨q', rfl, .inl q1⟩
def colP (t : Str) : Str → Option (Option Str × Str)
 | [] => none
 | d :: u' => bif decide (d = 58) then some (some t, u') else none
theorem keyP_34 (b : Bool) (last : Option Str) (r : Str) : keyP b true last (34 :: r) = match strP b r with
  | none => none
  | some (k, u) => bif b && !keyOk true last (some k) then none else colP k u := by
 show (match strP b r with
   | none => none
   | some (k, u) => bif b && !keyOk true last (some k) then none else (match u with
    | [] => none
    | d :: u' => bif decide (d = 58) then some (some k, u') else none)) = _
 cases strP b r with
 | none => rfl
 | some q => obtain ⟨k, u⟩ := q; cases u <;> rfl
theorem keyP_no (b : Bool) (last : Option Str) {u : Str} (h : ∀ r, u = 34 :: r → strP b r = none) : keyP b true last u = none := by
 cases u with
 | nil => rfl
 | cons c r =>
  by_cases hc : c = 34
  ·subst hc
   rw [keyP_34, h r rfl]
  ·show (bif decide (c = 34) then _ else none) = none
   rw [decide_eq_false hc]; rfl
theorem map_colon {F : Nat} {S w t : Str} {x16 cs : List TApiCell} {k : Int} {g : Bool} (b1 b2 : Bool) (hS : S.length ≤ 100000) (hw : Suf w S) :
  (∃ q', obn (vTake (t, true, mkq S w cs g).2.2 ([58] : Str)) (fun r489 => vRValue_j4 (vRValue F) x16 k (t, true, mkq S w cs g) b1 b2 (!r489.1) r489.2.fS r489.2.fAt r489.2.fCells r489.2.fGreat) = some (.out (.ret (false, q'))) ∧ colP t w = none) ∨
  ∃ s1, w = 58 :: s1 ∧ colP t w = some (some t, s1) ∧ obn (vTake (t, true, mkq S w cs g).2.2 ([58] : Str)) (fun r489 => vRValue_j4 (vRValue F) x16 k (t, true, mkq S w cs g) b1 b2 (!r489.1) r489.2.fS r489.2.fAt r489.2.fCells r489.2.fGreat) = vRValue_j4 (vRValue F) x16 k (t, true, mkq S w cs g) b1 b2 false S ((S.length : Int) - s1.length) cs g := by
 rw [show (t, true, mkq S w cs g).2.2 = mkq S w cs g from rfl, vTake_eq hS hw, pre1]
 cases w with
 | nil => exact .inl ⟨_, rfl, rfl⟩
 | cons d s1 =>
  by_cases hd : d = 58
  ·subst hd; exact .inr ⟨s1, rfl, rfl, rfl⟩
  ·simp only [decide_eq_false hd, cond_false]
   refine .inl ⟨_, rfl, ?_⟩
   show (bif decide (d = 58) then _ else none) = none
   rw [decide_eq_false hd]; rfl
theorem map_key {F : Nat} {S u last : Str} {x16 cs : List TApiCell} {k : Int} {g : Bool} (hS : S.length ≤ 100000) (hs : Suf u S) (hF : S.length < F) :
  (keyP true true (bif decide (1 < k) then some last else none) u = none ∧ ∃ q', LB3 F x16 (last, k, S, (S.length : Int) - u.length, cs, g) = some (.out (.ret (false, q')))) ∨
  ∃ t s1 b1 b2 q0, keyP true true (bif decide (1 < k) then some last else none) u = some (some t, s1) ∧ Suf s1 S ∧ s1.length + 2 ≤ u.length ∧ LB3 F x16 (last, k, S, (S.length : Int) - u.length, cs, g) = vRValue_j4 (vRValue F) x16 k (t, true, q0) b1 b2 false S ((S.length : Int) - s1.length) cs g := by
 have hb : LB3 F x16 (last, k, S, (S.length : Int) - u.length, cs, g) = vRValue_b3 F (vRValue F) x16 last k S ((S.length : Int) - u.length) cs g := rfl
 rw [hb]
 unfold vRValue_b3
 rw [mkq_eta]
 rcases vRStr_eq (cs := cs) (g := g) hS hs hF with ⟨r, t, w, q1, q2, q3, q4⟩ | ⟨q1, q', q2⟩
 ·rw [q4, obn_s rfl, cnd_ff (p := !true) rfl]
  subst q1
  have hok := strP_ok _ r t w rfl q2
  have hwl := strP_len true _ r t w rfl q2
  rw [keyP_34, q2]
  simp only [Bool.true_and]
  cases h1 : decide (1 < k) with
  | true =>
   rw [cnd_tt rfl]
   simp only [cond_true]
   have hko : keyOk true (some last) (some t) = !(sLess t last || decide (t = last)) := by simp [keyOk, hok]
   rw [hko, Bool.not_not]
   cases hlt : (sLess t last || decide (t = last)) with
   | true =>
    rw [cnd_tt rfl]
    exact .inl ⟨rfl, _, rfl⟩
   | false =>
    rw [cnd_ff rfl]
    simp only [cond_false]
    rcases map_colon (F := F) (cs := cs) (g := g) (x16 := x16) (k := k) (t := t) false false hS q3 with ⟨q', c1, c2⟩ | ⟨s1, c1, c2, c3⟩
    ·exact .inl ⟨c2, q', c1⟩
    ·subst c1
     exact .inr ⟨t, s1, false, false, mkq S (58 :: s1) cs g, c2, q3.tail, by simp only [List.length_cons] at hwl ⊢; omega, c3⟩
  | false =>
   rw [cnd_ff rfl]
   simp only [cond_false]
   have hko : keyOk true none (some t) = true := by simp [keyOk, hok]
   rw [hko]
   simp only [Bool.not_true, cond_false]
   rcases map_colon (F := F) (cs := cs) (g := g) (x16 := x16) (k := k) (t := t) false false hS q3 with ⟨q', c1, c2⟩ | ⟨s1, c1, c2, c3⟩
   ·exact .inl ⟨c2, q', c1⟩
   ·subst c1
    exact .inr ⟨t, s1, false, false, mkq S (58 :: s1) cs g, c2, q3.tail, by simp only [List.length_cons] at hwl ⊢; omega, c3⟩
 ·rw [q2, obn_s rfl]
  exact .inl ⟨keyP_no _ _ q1, _, rfl⟩
def brkP (b : Bool) (F : Nat) (m : Bool) : Str → Option (Fo × Str)
 | [] => none
 | d :: r' => bif decide (d = closeC m) then some (nd m .nil, r') else (match parL b F m none (d :: r') with
  | none => none
  | some (g, u) => some (nd m g, u))
theorem brkP_cons (b : Bool) (F : Nat) (m : Bool) (d : UInt8) (r' : Str) : brkP b F m (d :: r') = bif decide (d = closeC m) then some (nd m .nil, r') else (match parL b F m none (d :: r') with
  | none => none
  | some (g, u) => some (nd m g, u)) := rfl
theorem par_91 (b : Bool) (F : Nat) (r : Str) (m : Bool) : par b (F + 1) ((bif m then 123 else 91) :: r) = brkP b F m r := by
 rw [par_succ]
 cases m <;> cases r <;> rfl
theorem list_all {S : Str} (hS : S.length ≤ 100000) : ∀ n : Nat,
  (∀ (F P : Nat) (u : Str) (cs : List TApiCell) (g : Bool), u.length = n → Suf u S → S.length + n + 5 < F → 2 * n + 2 ≤ P → cs.length + n ≤ S.length → VOk F P S u cs g) ∧
  (∀ (F P L : Nat) (u : Str) (x16 D : List TApiCell) (k : Int) (g : Bool), u.length = n → Suf u S → S.length + n + 5 < F → 2 * n + 3 ≤ P → n < L → x16.length + 1 + D.length + n ≤ S.length → 1 ≤ k → k + n ≤ S.length + 1 → ∃ o, lop (LB2 F x16) L (k, S, (S.length : Int) - u.length, x16 ++ ⟨5, 0, [], k - 1⟩ :: D, g) = some o ∧ LOk P false none S u x16 D k g o) ∧
  (∀ (F P L : Nat) (u last : Str) (x16 D : List TApiCell) (k : Int) (g : Bool), u.length = n → Suf u S → S.length + n + 5 < F → 2 * n + 3 ≤ P → n < L → x16.length + 1 + D.length + n ≤ S.length → 1 ≤ k → k + n ≤ S.length + 1 → ∃ o, lop (LB3 F x16) L (last, k, S, (S.length : Int) - u.length, x16 ++ ⟨6, 0, [], k - 1⟩ :: D, g) = some o ∧ LOk P true (bif decide (1 < k) then some last else none) S u x16 D k g o) := by
 intro n
 induction n using Nat.strongRecOn with
 | ind n ih =>
 have hV : ∀ (F P : Nat) (u : Str) (cs : List TApiCell) (g : Bool), u.length = n → Suf u S → S.length + n + 5 < F → 2 * n + 2 ≤ P → cs.length + n ≤ S.length → VOk F P S u cs g := by
  intro F P u cs g hn hs hF hP hcs
  obtain ⟨F, rfl⟩ : ∃ K, F = K + 1 := ⟨F - 1, by omega⟩
  obtain ⟨P, rfl⟩ : ∃ K, P = K + 1 := ⟨P - 1, by omega⟩
  unfold VOk
  rw [vRValue]
  unfold vRValuem
  rw [vTake_eq hS hs, pre1]
  -- not a bracket
  have hsc : (∀ c r, u = c :: r → (decide (c = 91) || decide (c = 123)) = false) → ∀ r1 : Bool × TValueReader, (∃ f w, par true (P + 1) u = some (f, w) ∧ Suf w S ∧ vRValue_j1 F (vRValue F) r1 true S ((S.length : Int) - u.length) cs g = some (true, mkq S w (cs ++ f.flat.map fixC) (g || f.flat.any outC))) ∨ (par true (P + 1) u = none ∧ ∃ q', vRValue_j1 F (vRValue F) r1 true S ((S.length : Int) - u.length) cs g = some (false, q')) := fun hc r1 => by
   rw [par_scal true P hc]
   unfold vRValue_j1
   rw [cnd_tt rfl, mkq_eta]
   rcases vRScalar_eq (F := F) (cs := cs) (g := g) hS hs (by omega) (by omega) with ⟨f, w, q1, q2, q3⟩ | ⟨q1, q', q2⟩
   ·rw [q3, obn_s rfl]; exact .inl ⟨f, w, q1, q2, rfl⟩
   ·rw [q2, obn_s rfl]; exact .inr ⟨q1, q', rfl⟩
  have hsl := hs.len
  cases u with
  | nil =>
   simp only
   rw [obn_s rfl, cnd_tt (p := !false) rfl, show (false, mkq S [] cs g).2 = mkq S [] cs g from rfl, vTake_eq hS hs, pre1, obn_s rfl]
   exact hsc (fun c r e => by cases e) _
  | cons c r =>
   simp only [List.length_cons] at hn hsl
   simp only
   -- inside brackets
   have hbr : ∀ m : Bool, c = (bif m then 123 else 91) → ∀ body : Option (Bool × TValueReader), body = (chk (inA 40 (cs.length + ([⟨bif m then 6 else 5, 0, [], 0⟩] : List TApiCell).length)) <| obn (vTake (mkq S r (cs ++ [⟨bif m then 6 else 5, 0, [], 0⟩]) g) ([closeC m] : Str)) fun r40 => cnd r40.1 (some (true, r40.2)) (bif m then obn (lop (LB3 F cs) F ([], 1, r40.2.fS, r40.2.fAt, r40.2.fCells, r40.2.fGreat)) (oute fun _ => vRValue_k3) else obn (lop (LB2 F cs) F (1, r40.2.fS, r40.2.fAt, r40.2.fCells, r40.2.fGreat)) (oute fun _ => vRValue_k2))) →
     (∃ f w, par true (P + 1) (c :: r) = some (f, w) ∧ Suf w S ∧ body = some (true, mkq S w (cs ++ f.flat.map fixC) (g || f.flat.any outC))) ∨ (par true (P + 1) (c :: r) = none ∧ ∃ q', body = some (false, q')) := fun m hc body hbody => by
    rw [hbody, hc, par_91, chk_A40 (by rw [List.length_singleton]; omega), vTake_eq hS hs.tail, pre1]
    have hfh : fixC ⟨bif m then 6 else 5, 0, [], 0⟩ = ⟨bif m then 6 else 5, 0, [], 0⟩ ∧ ∀ N, outC ⟨bif m then 6 else 5, 0, [], N⟩ = false := by cases m <;> exact ⟨rfl, fun _ => rfl⟩
    have hfn : ∀ N, fixC ⟨bif m then 6 else 5, 0, [], N⟩ = ⟨bif m then 6 else 5, 0, [], N⟩ := fun N => by cases m <;> rfl
    -- the loop
    have hloop : ∀ o : Out (Bool × TValueReader) Unit, LOk P m none S r cs [] 1 g o → (r = [] ∨ ∃ d r', r = d :: r' ∧ decide (d = closeC m) = false) →
      (∃ f w, brkP true P m r = some (f, w) ∧ Suf w S ∧ o = .ret (true, mkq S w (cs ++ f.flat.map fixC) (g || f.flat.any outC))) ∨ (brkP true P m r = (none : Option (Fo × Str)) ∧ ∃ q', o = .ret (false, q')) := fun o ho hr => by
     rcases hr with rfl | ⟨d, r', rfl, hd⟩
     ·rcases ho with ⟨G, w, q1, _, _⟩ | ⟨_, q2⟩
      ·exact absurd ((par_len true P).2 _ _ _ _ _ q1).1 (by simp)
      ·exact .inr ⟨rfl, q2⟩
     ·rw [brkP_cons, hd]
      simp only [cond_false]
      rcases ho with ⟨G, w, q1, q2, q3⟩ | ⟨q1, q2⟩
      ·rw [q1]
       refine .inl ⟨_, w, rfl, q2, ?_⟩
       rw [q3, nd_flat _ _ cnt_nil, List.map_cons, List.any_cons, hfn, hfh.2, Bool.false_or, List.nil_append, show (1 : Int) - 1 + (G.cnt : Int) = G.cnt from by omega]
      ·rw [q1]; exact .inr ⟨rfl, q2⟩
    have hrest : (r = [] ∨ ∃ d r', r = d :: r' ∧ decide (d = closeC m) = false) → (∃ f w, brkP true P m r = some (f, w) ∧ Suf w S ∧ (bif m then obn (lop (LB3 F cs) F ([], 1, S, (S.length : Int) - r.length, cs ++ [⟨bif m then 6 else 5, 0, [], 0⟩], g)) (oute fun _ => vRValue_k3) else obn (lop (LB2 F cs) F (1, S, (S.length : Int) - r.length, cs ++ [⟨bif m then 6 else 5, 0, [], 0⟩], g)) (oute fun _ => vRValue_k2)) = some (true, mkq S w (cs ++ f.flat.map fixC) (g || f.flat.any outC))) ∨ (brkP true P m r = (none : Option (Fo × Str)) ∧ ∃ q', (bif m then obn (lop (LB3 F cs) F ([], 1, S, (S.length : Int) - r.length, cs ++ [⟨bif m then 6 else 5, 0, [], 0⟩], g)) (oute fun _ => vRValue_k3) else obn (lop (LB2 F cs) F (1, S, (S.length : Int) - r.length, cs ++ [⟨bif m then 6 else 5, 0, [], 0⟩], g)) (oute fun _ => vRValue_k2)) = some (false, q')) := fun hr => by
     cases m with
     | true =>
      obtain ⟨o, ho1, ho2⟩ := (ih r.length (by omega)).2.2 F P F r [] cs [] 1 g rfl hs.tail (by omega) (by omega) (by omega) (by simp; omega) (by decide) (by omega)
      simp only [cond_true]
      have ho1' : lop (LB3 F cs) F ([], 1, S, (S.length : Int) - r.length, cs ++ [⟨6, 0, [], 0⟩], g) = some o := ho1
      rw [obn_s ho1']
      rcases hloop o ho2 hr with ⟨f, w, q1, q2, q3⟩ | ⟨q1, q', q2⟩
      ·exact .inl ⟨f, w, q1, q2, oute_k2 q3⟩
      ·exact .inr ⟨q1, q', oute_k2 q2⟩
     | false =>
      obtain ⟨o, ho1, ho2⟩ := (ih r.length (by omega)).2.1 F P F r cs [] 1 g rfl hs.tail (by omega) (by omega) (by omega) (by simp; omega) (by decide) (by omega)
      simp only [cond_false]
      have ho1' : lop (LB2 F cs) F (1, S, (S.length : Int) - r.length, cs ++ [⟨5, 0, [], 0⟩], g) = some o := ho1
      rw [obn_s ho1']
      rcases hloop o ho2 hr with ⟨f, w, q1, q2, q3⟩ | ⟨q1, q', q2⟩
      ·exact .inl ⟨f, w, q1, q2, oute_k2 q3⟩
      ·exact .inr ⟨q1, q', oute_k2 q2⟩
    cases r with
    | nil =>
     simp only
     rw [obn_s rfl, cnd_ff rfl]
     exact hrest (.inl rfl)
    | cons d r' =>
     simp only
     cases hd : decide (d = closeC m) with
     | true =>
      simp only [cond_true]
      rw [obn_s rfl, cnd_tt rfl]
      refine .inl ⟨_, r', by rw [brkP_cons, hd]; rfl, hs.tail.tail, ?_⟩
      rw [nd_flat _ _ cnt_nil]
      simp only [Fo.flat, Fo.cnt, List.map_cons, List.map_nil, List.any_cons, List.any_nil, Bool.or_false]
      rw [show ((0 : Nat) : Int) = 0 from rfl, hfh.1, hfh.2, Bool.or_false]
     | false =>
      simp only [cond_false]
      rw [obn_s rfl, cnd_ff rfl]
      exact hrest (.inr ⟨d, r', rfl, hd⟩)
   cases h91 : decide (c = 91) with
   | true =>
    simp only [decide_eq_true_eq] at h91
    simp only [cond_true]
    rw [obn_s rfl, cnd_ff (p := !true) rfl]
    exact hbr false h91 _ rfl
   | false =>
    simp only [cond_false]
    rw [obn_s rfl, cnd_tt (p := !false) rfl, show (false, mkq S (c :: r) cs g).2 = mkq S (c :: r) cs g from rfl, vTake_eq hS hs, pre1]
    simp only
    cases h123 : decide (c = 123) with
    | true =>
     simp only [decide_eq_true_eq] at h123
     simp only [cond_true]
     rw [obn_s rfl]
     exact hbr true h123 _ rfl
    | false =>
     simp only [cond_false]
     rw [obn_s rfl]
     exact hsc (fun c' r' e => by cases e; rw [h91, h123]; rfl) _
 refine ⟨hV, ?_, ?_⟩
 ·intro F P L u x16 D k g hn hs hF hP hL hb hk1 hk2
  obtain ⟨P, rfl⟩ : ∃ K, P = K + 1 := ⟨P - 1, by omega⟩
  obtain ⟨L, rfl⟩ : ∃ K, L = K + 1 := ⟨L - 1, by omega⟩
  have hsl := hs.len
  have hv := hV F P u (x16 ++ ⟨5, 0, [], k - 1⟩ :: D) g hn hs hF (by omega) (by simp; omega)
  have hkp : keyP true false none u = some (none, u) := rfl
  rcases list_round hS hs hk1 (by omega) hv with ⟨q', hb1, hf⟩ | ⟨f, s2, q1, q2, h⟩
  ·refine ⟨_, lop_o hb1, ?_⟩
   rcases hf with hf | ⟨f, s2, hf, hno⟩
   ·refine .inr ⟨?_, q', rfl⟩
    rw [parL_succ, hkp]
    simp only [hf]
   ·exact LOk.join hkp hf ((par_len true P).1 _ _ _ hf).2 (.inr (.inr ⟨hno, q', rfl⟩))
  ·obtain ⟨l1, ho⟩ := (par_len true P).1 _ _ _ q1
   have l2 := (par_flat true P).1 _ _ _ q1
   rcases h with ⟨s3, e, hb1⟩ | ⟨s3, e, hb1⟩
   ·subst e
    exact ⟨_, lop_o hb1, LOk.join hkp q1 ho (.inl ⟨s3, rfl, q2.tail, rfl⟩)⟩
   ·subst e
    simp only [List.length_cons] at l1 l2
    obtain ⟨o, ho1, ho2⟩ := (ih s3.length (by omega)).2.1 F P L s3 x16 (D ++ f.flat.map fixC) (k + 1) (g || f.flat.any outC) rfl q2.tail (by omega) (by omega) (by omega) (by rw [List.length_append, List.length_map]; omega) (by omega) (by omega)
    rw [show k + 1 - 1 = k from by omega] at ho1
    exact ⟨o, lop_n hb1 ho1, LOk.join hkp q1 ho (.inr (.inl ⟨s3, rfl, ho2⟩))⟩
 ·intro F P L u last x16 D k g hn hs hF hP hL hb hk1 hk2
  obtain ⟨P, rfl⟩ : ∃ K, P = K + 1 := ⟨P - 1, by omega⟩
  obtain ⟨L, rfl⟩ : ∃ K, L = K + 1 := ⟨L - 1, by omega⟩
  have hsl := hs.len
  rcases map_key (last := last) (x16 := x16) (cs := x16 ++ ⟨6, 0, [], k - 1⟩ :: D) (k := k) (g := g) hS hs (F := F) (by omega) with ⟨hk, q', hb1⟩ | ⟨t, s1, b1, b2, q0, hk, hs1, hl1, hb0⟩
  ·refine ⟨_, lop_o hb1, .inr ⟨?_, q', rfl⟩⟩
   rw [parL_succ, hk]
  ·have hv := (ih s1.length (by omega)).1 F P s1 (x16 ++ ⟨6, 0, [], k - 1⟩ :: (D ++ [⟨4, 0, t, 0⟩])) g rfl hs1 (by omega) (by omega) (by simp; omega)
   rcases map_tail (r := (t, true, q0)) (b1 := b1) (b2 := b2) hS hs1 hk1 (by omega) (by omega) hv with ⟨q', hb1, hf⟩ | ⟨f, s2, q1, q2, h⟩
   ·refine ⟨_, lop_o (hb0.trans hb1), ?_⟩
    rcases hf with hf | ⟨f, s2, hf, hno⟩
    ·refine .inr ⟨?_, q', rfl⟩
     rw [parL_succ, hk]
     simp only [hf]
    ·exact LOk.join hk hf ((par_len true P).1 _ _ _ hf).2 (.inr (.inr ⟨hno, q', rfl⟩))
   ·obtain ⟨l1, ho⟩ := (par_len true P).1 _ _ _ q1
    have l2 := (par_flat true P).1 _ _ _ q1
    rcases h with ⟨s3, e, hb1⟩ | ⟨s3, e, hb1⟩
    ·subst e
     exact ⟨_, lop_o (hb0.trans hb1), LOk.join hk q1 ho (.inl ⟨s3, rfl, q2.tail, rfl⟩)⟩
    ·subst e
     simp only [List.length_cons] at l1 l2
     obtain ⟨o, ho1, ho2⟩ := (ih s3.length (by omega)).2.2 F P L s3 t x16 (D ++ ([⟨4, 0, t, 0⟩] ++ f.flat.map fixC)) (k + 1) (g || f.flat.any outC) rfl q2.tail (by omega) (by omega) (by omega) (by rw [List.length_append, List.length_append, List.length_map, List.length_singleton]; omega) (by omega) (by omega)
     rw [show k + 1 - 1 = k from by omega] at ho1
     rw [show decide (1 < k + 1) = true from decide_eq_true (by omega)] at ho2
     exact ⟨o, lop_n (hb0.trans hb1) ho1, LOk.join hk q1 ho (.inr (.inl ⟨s3, rfl, ho2⟩))⟩
theorem vRValue_eq {S : Str} (hS : S.length ≤ 100000) {F P : Nat} (hF : 2 * S.length + 6 ≤ F) (hP : 2 * S.length + 2 ≤ P) : VOk F P S S [] false :=
 (list_all hS S.length).1 F P S [] false rfl ⟨[], rfl⟩ (by omega) hP (by simp)
end Go.Proofs.YtpmiamphppcfeaaGreatDoor

/-
 The reference's reader: words, strings, integers, told by the plain reader of bytes. Plain laws.
-/
namespace Go.Proofs.YtpmiamphppcfeaaGreatDoor
open Go
set_option linter.unusedVariables false
set_option linter.unusedSimpArgs false
theorem rStarts_eq {S u w : Str} (hS : S.length ≤ 100000) (hw : w.length ≤ 100) (h : Suf u S) : rStarts S ((S.length : Int) - u.length) w = some (pre w u).isSome := by
 have hl := h.len
 unfold rStarts
 rw [chk_i64 (by omega) (by omega)]
 have e : ∀ b : Bool, (decide ((S.length : Int) - u.length + w.length ≤ (S.length : Int)) = true → b = true) → imp (decide ((S.length : Int) - u.length + w.length ≤ (S.length : Int))) b = true := fun b hb => by
  cases hd : decide ((S.length : Int) - u.length + w.length ≤ (S.length : Int)) with
  | false => rfl
  | true => rw [hb hd]; rfl
 rw [chk_t (e _ fun hd => by simp only [decide_eq_true_eq] at hd; exact inC' (by omega) (by omega)), chk_t (e _ fun hd => by simp only [decide_eq_true_eq] at hd; exact inC' (by omega) (by omega))]
 rw [h.drop, ← pre_isSome, show Int.toNat ((S.length : Int) - u.length + w.length) - Int.toNat ((S.length : Int) - u.length) = Int.toNat (w.length : Int) from by omega]
 have : decide ((S.length : Int) - u.length + w.length ≤ (S.length : Int)) = decide ((w.length : Int) ≤ (u.length : Int)) := by rw [Bool.eq_iff_iff]; simp only [decide_eq_true_eq]; omega
 rw [this]
theorem take1 {S r : Str} {c : UInt8} (h : Suf (c :: r) S) : List.take (Int.toNat ((S.length : Int) - r.length) - Int.toNat ((S.length : Int) - (c :: r).length)) (List.drop (Int.toNat ((S.length : Int) - (c :: r).length)) S) = [c] := by
 have hl := h.len
 rw [h.drop]
 simp only [List.length_cons] at hl ⊢
 rw [show Int.toNat ((S.length : Int) - r.length) - Int.toNat ((S.length : Int) - ((r.length + 1 : Nat) : Int)) = 1 from by omega]
 rfl
theorem rReadString_lop {S : Str} (hS : S.length ≤ 100000) : ∀ (n L : Nat) (u A : Str), u.length = n → Suf u S → n < L → A.length ≤ S.length - n →
  ∃ o, lop (fun σ => rReadString_b1 S σ.1 σ.2) L (A, (S.length : Int) - u.length) = some o ∧ ((∃ t w, strP false u = some (t, w) ∧ Suf w S ∧ oute (fun ν => rReadString_k1 S ν.1 ν.2) o = some (A ++ t, (S.length : Int) - w.length)) ∨ (strP false u = none ∧ oute (fun ν => rReadString_k1 S ν.1 ν.2) o = some ([], -1))) := by
 intro n
 induction n using Nat.strongRecOn with
 | ind n ih =>
  intro L u A hn hs hL hA
  obtain ⟨L, rfl⟩ : ∃ K, L = K + 1 := ⟨L - 1, by omega⟩
  have hsl := hs.len
  cases u with
  | nil =>
   have hgo : rReadString_b1 S A ((S.length : Int) - ([] : Str).length) = some (.out (.go (A, (S.length : Int) - ([] : Str).length))) := by
    unfold rReadString_b1
    have e : decide ((S.length : Int) - ([] : Str).length < (S.length : Int)) = false := by simp
    rw [e, chk_t (p := imp false _) rfl, cnd_ff (p := false && _) rfl]
   refine ⟨_, lop_o hgo, .inr ⟨rfl, ?_⟩⟩
   rw [oute_go]
   unfold rReadString_k1
   rw [cnd_tt (decide_eq_true (by simp))]
  | cons c r =>
   have hb : bat S ((S.length : Int) - (c :: r).length) = c.toNat := bat_get hs.get
   have hpos : (S.length : Int) - (c :: r).length + 1 = S.length - r.length := by rw [List.length_cons]; omega
   have ht1 := take1 hs
   simp only [List.length_cons] at hn hsl
   have hlt : (S.length : Int) - (c :: r).length < S.length := by rw [List.length_cons]; omega
   have h0 : 0 ≤ (S.length : Int) - (c :: r).length := by rw [List.length_cons]; omega
   have l1 : ([c] : Str).length = 1 := rfl
   have hb1 : rReadString_b1 S A ((S.length : Int) - (c :: r).length) = cnd (!decide (c = 34)) (cnd (decide (c = 92)) (chk (imp (!(decide ((S.length : Int) ≤ S.length - r.length))) (inR (S.length - r.length) (S.length : Int))) <| cnd (((decide ((S.length : Int) ≤ S.length - r.length)) || ((!decide ((bat S (S.length - r.length)) = 34)) && (!decide ((bat S (S.length - r.length)) = 92))))) (some (.out (.ret (([] : Str), (-1))))) (chk (inK .i64 (((S.length : Int) - r.length) + 1)) <| chk (inC ((S.length : Int) - r.length) (((S.length : Int) - r.length) + 1)) <| chk (inC (((S.length : Int) - r.length) + 1) (S.length : Int)) <| chk (inK .i64 ((A.length : Int) + ((List.take (Int.toNat (((S.length : Int) - r.length) + 1) - Int.toNat ((S.length : Int) - r.length)) (List.drop (Int.toNat ((S.length : Int) - r.length)) S)).length : Int))) <| some (.next (A ++ (List.take (Int.toNat (((S.length : Int) - r.length) + 1) - Int.toNat ((S.length : Int) - r.length)) (List.drop (Int.toNat ((S.length : Int) - r.length)) S)), ((S.length : Int) - r.length) + 1)))) (some (.next (A ++ [c], (S.length : Int) - r.length)))) (some (.out (.go (A, (S.length : Int) - (c :: r).length)))) := by
    unfold rReadString_b1
    rw [decide_eq_true hlt, chk_t (p := imp true _) (by rw [inR' h0 hlt]; rfl), hb, int34, Bool.true_and, chk_inR h0 hlt, int92, hpos]
    cases decide (c = 34) with
    | true => rfl
    | false =>
     rw [cnd_tt (p := !false) rfl, cnd_tt (p := !false) rfl]
     cases decide (c = 92) with
     | true => rw [cnd_tt rfl, cnd_tt rfl, chk_i64 (by omega) (by omega)]
     | false => rw [cnd_ff rfl, cnd_ff rfl, chk_i64 (by omega) (by omega), chk_inC (by omega) (by omega), chk_inC (by omega) (by omega), ht1, l1, chk_i64 (by omega) (by omega)]
   rw [strP_cons]
   cases h1 : decide (c = 34) with
   | true =>
    rw [h1, cnd_ff (p := !true) rfl] at hb1
    refine ⟨_, lop_o hb1, .inl ⟨[], r, rfl, hs.tail, ?_⟩⟩
    rw [oute_go]
    unfold rReadString_k1
    rw [cnd_ff (decide_eq_false (by omega)), hpos, chk_i64 (by omega) (by omega), List.append_nil]
   | false =>
    rw [h1, cnd_tt (p := !false) rfl] at hb1
    simp only [cond_false, Bool.false_and]
    cases h3 : decide (c = 92) with
    | true =>
     rw [h3, cnd_tt rfl] at hb1
     cases r with
     | nil =>
      have e : decide ((S.length : Int) ≤ S.length - ([] : Str).length) = true := by simp
      rw [e, chk_t (p := imp (!true) _) rfl, cnd_tt (p := true || _) rfl] at hb1
      exact ⟨_, lop_o hb1, .inr ⟨rfl, rfl⟩⟩
     | cons d r' =>
      have ht2 := take1 hs.tail
      simp only [List.length_cons] at hn hsl
      have hbd : bat S ((S.length : Int) - (d :: r').length) = d.toNat := bat_get hs.tail.get
      have hlt2 : (S.length : Int) - (d :: r').length < S.length := by rw [List.length_cons]; omega
      have h02 : 0 ≤ (S.length : Int) - (d :: r').length := by rw [List.length_cons]; omega
      have hpos2 : (S.length : Int) - (d :: r').length + 1 = S.length - r'.length := by rw [List.length_cons]; omega
      have e : decide ((S.length : Int) ≤ S.length - (d :: r').length) = false := decide_eq_false (by omega)
      have l2 : ([d] : Str).length = 1 := rfl
      rw [e, inR' h02 hlt2, hbd, hpos2, int34, int92, chk_t (p := imp (!false) true) rfl, ht2, l2] at hb1
      simp only [cond_true]
      cases h4 : (decide (d = 34) || decide (d = 92)) with
      | false =>
       have e4 : (false || (!decide (d = 34) && !decide (d = 92))) = true := by rw [← Bool.not_or, h4]; rfl
       rw [cnd_tt e4] at hb1
       exact ⟨_, lop_o hb1, .inr ⟨rfl, rfl⟩⟩
      | true =>
       have e4 : (false || (!decide (d = 34) && !decide (d = 92))) = false := by rw [← Bool.not_or, h4]; rfl
       rw [cnd_ff e4, chk_i64 (by omega) (by omega), chk_inC (by omega) (by omega), chk_inC (by omega) (by omega), chk_i64 (by omega) (by omega)] at hb1
       obtain ⟨o, ho1, ho2⟩ := ih r'.length (by omega) L r' (A ++ [d]) rfl hs.tail.tail (by omega) (by rw [app1_len]; omega)
       refine ⟨o, lop_n hb1 ho1, ?_⟩
       simp only [cond_true]
       rcases ho2 with ⟨t, w, q1, q2, q3⟩ | ⟨q1, q2⟩
       ·rw [q1]; exact .inl ⟨d :: t, w, rfl, q2, by rw [q3]; simp⟩
       ·rw [q1]; exact .inr ⟨rfl, q2⟩
    | false =>
     rw [h3, cnd_ff rfl] at hb1
     obtain ⟨o, ho1, ho2⟩ := ih r.length (by omega) L r (A ++ [c]) rfl hs.tail (by omega) (by rw [app1_len]; omega)
     refine ⟨o, lop_n hb1 ho1, ?_⟩
     simp only [cond_false]
     rcases ho2 with ⟨t, w, q1, q2, q3⟩ | ⟨q1, q2⟩
     ·rw [q1]; exact .inl ⟨c :: t, w, rfl, q2, by rw [q3]; simp⟩
     ·rw [q1]; exact .inr ⟨rfl, q2⟩
theorem rReadString_eq {F : Nat} {S u : Str} (hS : S.length ≤ 100000) (h : Suf u S) (hF : S.length < F) :
  (∃ r t w, u = 34 :: r ∧ strP false r = some (t, w) ∧ Suf w S ∧ rReadString F S ((S.length : Int) - u.length) = some (t, (S.length : Int) - w.length)) ∨ ((∀ r, u = 34 :: r → strP false r = none) ∧ rReadString F S ((S.length : Int) - u.length) = some ([], -1)) := by
 have hl := h.len
 unfold rReadString
 cases u with
 | nil =>
  have e : decide ((S.length : Int) ≤ (S.length : Int) - ([] : Str).length) = true := by simp
  rw [e, chk_t (p := imp (!true) _) rfl, cnd_tt (p := true || _) rfl]
  exact .inr ⟨(fun r e => by cases e), rfl⟩
 | cons c r =>
  have hb : bat S ((S.length : Int) - (c :: r).length) = c.toNat := bat_get h.get
  have hpos : (S.length : Int) - (c :: r).length + 1 = S.length - r.length := by rw [List.length_cons]; omega
  simp only [List.length_cons] at hl
  have hlt : (S.length : Int) - (c :: r).length < S.length := by rw [List.length_cons]; omega
  have h0 : 0 ≤ (S.length : Int) - (c :: r).length := by rw [List.length_cons]; omega
  have e : decide ((S.length : Int) ≤ (S.length : Int) - (c :: r).length) = false := decide_eq_false (by omega)
  rw [e, chk_t (p := imp (!false) _) (by rw [inR' h0 hlt]; rfl), hb, int34, hpos]
  cases hc : decide (c = 34) with
  | false =>
   simp only [decide_eq_false_iff_not] at hc
   exact .inr ⟨(fun r' e => by cases e; exact absurd rfl hc), rfl⟩
  | true =>
   simp only [decide_eq_true_eq] at hc
   subst hc
   rw [cnd_ff (p := false || !true) rfl, chk_i64 (by omega) (by omega)]
   obtain ⟨o, ho1, ho2⟩ := rReadString_lop hS r.length F r [] rfl h.tail (by omega) (Nat.zero_le _)
   rw [obn_s ho1]
   rcases ho2 with ⟨t, w, q1, q2, q3⟩ | ⟨q1, q2⟩
   ·exact .inl ⟨r, t, w, rfl, q1, q2, q3⟩
   ·exact .inr ⟨(fun r' e => by cases e; exact q1), q2⟩
/-! ### integers -/
theorem numD_snoc (d : Str) (c : UInt8) : numD (d ++ [c]) = 10 * numD d + ((c.toNat : Int) - 48) := by simp [numD]
theorem natF_lt : ∀ (d : Str), d.all isDig = true → natF 0 d < 10 ^ d.length := by
 have key : ∀ (d : Str) (a m : Nat), d.all isDig = true → a < 10 ^ m → natF a d < 10 ^ (m + d.length) := by
  intro d
  induction d with
  | nil => intro a m _ h; simpa [natF] using h
  | cons c d ih =>
   intro a m hd h
   simp only [List.all_cons, Bool.and_eq_true] at hd
   have hc : 48 ≤ c.toNat ∧ c.toNat ≤ 57 := by have := hd.1; simp [isDig] at this; omega
   have := ih (10 * a + (c.toNat - 48)) (m + 1) hd.2 (by rw [Nat.pow_succ]; omega)
   rw [List.length_cons, show m + (d.length + 1) = m + 1 + d.length from by omega]
   exact this
 intro d hd
 have := key d 0 0 hd (by decide)
 simpa using this
theorem numD_bd {d : Str} (hd : d.all isDig = true) (hl : d.length ≤ 18) : 0 ≤ numD d ∧ numD d < 1000000000000000000 := by
 have h1 : numD d = (natF 0 d : Int) := numD_nat d 0 hd
 have h2 := natF_lt d hd
 have h3 : 10 ^ d.length ≤ 10 ^ 18 := Nat.pow_le_pow_right (by decide) hl
 have : (10 : Nat) ^ 18 = 1000000000000000000 := by decide
 omega
def cap18 (d : Str) : Str := d.take 18
theorem cap_lt {D : Str} {c : UInt8} (h : D.length < 18) : cap18 D = D ∧ cap18 (D ++ [c]) = D ++ [c] := by
 unfold cap18
 exact ⟨List.take_of_length_le (by omega), List.take_of_length_le (by simp; omega)⟩
theorem cap_ge {D : Str} {c : UInt8} (h : ¬ D.length < 18) : cap18 (D ++ [c]) = cap18 D := by
 unfold cap18
 rw [List.take_append_of_le_length (by omega)]
theorem rInt_step {S r D : Str} {c : UInt8} {a : Int} (body : Int → Int → Option (Stp (Int × Int) (Out (List TApiCell × Int) (Int × Int)))) (hS : S.length ≤ 100000) (hs : Suf (c :: r) S) (hD : D.all isDig = true) (hDm : D.length ≤ 100000) (ha : (S.length : Int) - (c :: r).length - a = D.length)
  (hb : ∀ x n, body x n = (chk (imp (decide (x < (S.length : Int))) (inR x (S.length : Int))) <| cnd (((decide (x < (S.length : Int))) && ((decide (48 ≤ (bat S x))) && (decide ((bat S x) ≤ 57))))) (chk (inK .i64 (x - a)) <| cnd (decide ((x - a) < 18)) (chk (inK .i64 (10 * n)) <| chk (inR x (S.length : Int)) <| chk (inK .u8 ((bat S x) - 48)) <| chk (inK .i64 ((bat S x) - 48)) <| chk (inK .i64 ((10 * n) + ((bat S x) - 48))) <| chk (inK .i64 (x + 1)) <| some (.next (x + 1, (10 * n) + ((bat S x) - 48)))) (chk (inK .i64 (x + 1)) <| some (.next (x + 1, n)))) (some (.out (.go (x, n)))))) :
  body ((S.length : Int) - (c :: r).length) (numD (cap18 D)) = bif isDig c then some (.next ((S.length : Int) - r.length, numD (cap18 (D ++ [c])))) else some (.out (.go ((S.length : Int) - (c :: r).length, numD (cap18 D)))) := by
 have hsl := hs.len
 have hbt : bat S ((S.length : Int) - (c :: r).length) = c.toNat := bat_get hs.get
 have hpos : (S.length : Int) - (c :: r).length + 1 = S.length - r.length := by rw [List.length_cons]; omega
 simp only [List.length_cons] at hsl
 have hlt : (S.length : Int) - (c :: r).length < S.length := by rw [List.length_cons]; omega
 have h0 : 0 ≤ (S.length : Int) - (c :: r).length := by rw [List.length_cons]; omega
 rw [hb, decide_eq_true hlt, chk_t (p := imp true _) (by rw [inR' h0 hlt]; rfl), hbt, dig_bat, Bool.true_and, ha, hpos]
 cases hd : isDig c with
 | false => rfl
 | true =>
  have hc : 48 ≤ c.toNat ∧ c.toNat ≤ 57 := by simp [isDig] at hd; omega
  rw [cnd_tt rfl]
  by_cases h18 : D.length < 18
  ·obtain ⟨e1, e2⟩ := cap_lt (c := c) h18
   have hbd := numD_bd hD (by omega)
   have hb17 : numD D < 100000000000000000 := by
    have h1 : numD D = (natF 0 D : Int) := numD_nat D 0 hD
    have h2 := natF_lt D hD
    have h3 : 10 ^ D.length ≤ 10 ^ 17 := Nat.pow_le_pow_right (by decide) (by omega)
    have : (10 : Nat) ^ 17 = 100000000000000000 := by decide
    omega
   rw [e1, e2, numD_snoc, chk_i64 (by omega) (by omega), cnd_tt (decide_eq_true (by omega)), chk_i64 (by omega) (by omega), chk_inR h0 hlt, chk_u8 (by omega) (by omega), chk_i64 (by omega) (by omega), chk_i64 (by omega) (by omega), chk_i64 (by omega) (by omega)]
   rfl
  ·rw [cap_ge h18]
   have hle : (D.length : Int) ≤ 9223372036854775807 := by omega
   rw [chk_i64 (by omega) hle, cnd_ff (decide_eq_false (by omega)), chk_i64 (by omega) (by omega)]
   rfl
theorem rInt_lop {S : Str} {a : Int} (body : Int → Int → Option (Stp (Int × Int) (Out (List TApiCell × Int) (Int × Int)))) (hS : S.length ≤ 100000)
  (hb : ∀ x n, body x n = (chk (imp (decide (x < (S.length : Int))) (inR x (S.length : Int))) <| cnd (((decide (x < (S.length : Int))) && ((decide (48 ≤ (bat S x))) && (decide ((bat S x) ≤ 57))))) (chk (inK .i64 (x - a)) <| cnd (decide ((x - a) < 18)) (chk (inK .i64 (10 * n)) <| chk (inR x (S.length : Int)) <| chk (inK .u8 ((bat S x) - 48)) <| chk (inK .i64 ((bat S x) - 48)) <| chk (inK .i64 ((10 * n) + ((bat S x) - 48))) <| chk (inK .i64 (x + 1)) <| some (.next (x + 1, (10 * n) + ((bat S x) - 48)))) (chk (inK .i64 (x + 1)) <| some (.next (x + 1, n)))) (some (.out (.go (x, n)))))) :
  ∀ (r D : Str) (L : Nat), Suf r S → D.all isDig = true → (S.length : Int) - r.length - a = D.length → D.length + r.length ≤ S.length → r.length < L →
  lop (fun σ => body σ.1 σ.2) L ((S.length : Int) - r.length, numD (cap18 D)) = some (.go ((S.length : Int) - (digP r).2.length, numD (cap18 (D ++ (digP r).1))))
 | [], D, L, hs, hD, ha, hDl, hL => by
  obtain ⟨L, rfl⟩ : ∃ K, L = K + 1 := ⟨L - 1, by omega⟩
  refine lop_o ?_
  show body _ _ = _
  have e : decide ((S.length : Int) - ([] : Str).length < (S.length : Int)) = false := by simp
  rw [hb, e, chk_t (p := imp false _) rfl, cnd_ff (p := false && _) rfl]
  show _ = some (Stp.out (Out.go ((S.length : Int) - ([] : Str).length, numD (cap18 (D ++ [])))))
  rw [List.append_nil]
 | c :: r, D, L, hs, hD, ha, hDl, hL => by
  obtain ⟨L, rfl⟩ : ∃ K, L = K + 1 := ⟨L - 1, by omega⟩
  have hst := rInt_step body hS hs hD (by omega) ha hb
  simp only [List.length_cons] at hL hDl
  rw [digP]
  cases hd : isDig c with
  | false =>
   rw [hd] at hst
   simp only [cond_false, List.append_nil]
   exact lop_o hst
  | true =>
   rw [hd] at hst
   simp only [cond_true]
   have := rInt_lop body hS hb r (D ++ [c]) L hs.tail (by simp [hD, hd]) (by rw [app1_len]; simp only [List.length_cons] at ha; omega) (by rw [app1_len]; omega) (by omega)
   rw [List.append_assoc] at this
   exact lop_n hst this
theorem rReadInt_eq {F : Nat} {S : Str} {c0 : UInt8} {r0 : Str} (hS : S.length ≤ 100000) (h : Suf (c0 :: r0) S) (hF : S.length < F) :
  (∃ f w, intP (c0 :: r0) = some (f, w) ∧ Suf w S ∧ rReadInt F S ((S.length : Int) - (c0 :: r0).length) = some (f.flat, (S.length : Int) - w.length)) ∨ (intP (c0 :: r0) = none ∧ rReadInt F S ((S.length : Int) - (c0 :: r0).length) = some ([], -1)) := by
 have hl := h.len
 have hbt : bat S ((S.length : Int) - (c0 :: r0).length) = c0.toNat := bat_get h.get
 have hpos : (S.length : Int) - (c0 :: r0).length + 1 = S.length - r0.length := by rw [List.length_cons]; omega
 have hlt : (S.length : Int) - (c0 :: r0).length < S.length := by rw [List.length_cons]; omega
 have h0 : 0 ≤ (S.length : Int) - (c0 :: r0).length := by omega
 have h45 : decide ((c0.toNat : Int) = 45) = decide ((c0 :: r0).head? = some 45) := by
  rw [Bool.eq_iff_iff]
  simp only [decide_eq_true_eq, List.head?_cons, Option.some.injEq, ← UInt8.toNat_inj]
  show (c0.toNat : Int) = 45 ↔ c0.toNat = 45
  omega
 -- the end, in general
 have fin : ∀ (neg : Bool) (r : Str) (a : Int) (k : Int → Int → Option (List TApiCell × Int)), Suf r S → (S.length : Int) - r.length = a → (∀ x n, a ≤ x → x ≤ S.length → k x n = (chk (imp (!(decide (x = a))) (imp (decide ((bat S a) = 48)) (inK .i64 (a + 1)))) <| cnd (((decide (x = a)) || ((decide ((bat S a) = 48)) && ((decide ((a + 1) < x)) || neg)))) (some (([] : List TApiCell), (-1))) (chk (inK .i64 (x - a)) <| cnd (decide (18 < (x - a))) (cnd neg (some (([(TApiCell.mk 3 (-2000000000000) ([] : Str) 0)] : List TApiCell), x)) (some (([(TApiCell.mk 3 2000000000000 ([] : Str) 0)] : List TApiCell), x))) (cnd neg (chk (inK .i64 (-n)) <| some (([(TApiCell.mk 3 (-n) ([] : Str) 0)] : List TApiCell), x)) (some (([(TApiCell.mk 3 n ([] : Str) 0)] : List TApiCell), x)))))) →
   k ((S.length : Int) - (digP r).2.length) (numD (cap18 (digP r).1)) = bif canon neg (digP r).1 then some ([⟨3, intV neg (digP r).1, [], 0⟩], (S.length : Int) - (digP r).2.length) else some ([], -1) := fun neg r a k hr ha hk => by
  have hrl := hr.len
  have hsplit := digP_eq r
  have hlen : r.length = (digP r).1.length + (digP r).2.length := by conv => lhs; rw [hsplit, List.length_append]
  have hd := digP_all r
  rw [hk _ _ (by omega) (by omega), chk_t (by
   cases decide ((S.length : Int) - (digP r).2.length = a) <;> cases decide (bat S a = 48) <;> simp only [imp, Bool.not_true, Bool.not_false, Bool.true_or, Bool.or_true, Bool.false_or]
   exact inK_i64' (by omega) (by omega)), chk_i64 (by omega) (by omega)]
  have hx : (S.length : Int) - (digP r).2.length - a = (digP r).1.length := by omega
  rw [hx]
  have hc : (decide ((S.length : Int) - (digP r).2.length = a) || (decide (bat S a = 48) && (decide (a + 1 < (S.length : Int) - (digP r).2.length) || neg))) = !canon neg (digP r).1 := by
   unfold canon
   cases he : (digP r).1 with
   | nil =>
    rw [he] at hlen
    rw [decide_eq_true (show (S.length : Int) - (digP r).2.length = a by simp only [List.length_nil] at hlen; omega)]
    rfl
   | cons c d =>
    rw [he] at hlen hsplit
    have hg : bat S a = c.toNat := by
     rw [← ha]
     have hr' := hr
     rw [hsplit] at hr'
     have := hr'.get
     have e : ((S.length : Int) - r.length) = (S.length : Int) - ((c :: d) ++ (digP r).2).length := by rw [← hsplit]
     rw [e]
     exact bat_get this
    have h48 : decide ((c.toNat : Int) = 48) = decide ((c :: d).head? = some 48) := by
     rw [Bool.eq_iff_iff]
     simp only [decide_eq_true_eq, List.head?_cons, Option.some.injEq, ← UInt8.toNat_inj]
     show (c.toNat : Int) = 48 ↔ c.toNat = 48
     omega
    have h1 : decide (a + 1 < (S.length : Int) - (digP r).2.length) = decide (1 < (c :: d).length) := by rw [Bool.eq_iff_iff]; simp only [decide_eq_true_eq]; omega
    have h2 : decide ((S.length : Int) - (digP r).2.length = a) = false := decide_eq_false (by simp only [List.length_cons] at hlen; omega)
    have h3 : decide (c :: d = ([] : Str)) = false := by simp
    rw [hg, h48, h1, h2, h3]
    simp
  rw [hc]
  cases hcan : canon neg (digP r).1 with
  | false => rfl
  | true =>
   rw [cnd_ff (p := !true) rfl]
   unfold intV
   cases h18 : decide (18 < (digP r).1.length) with
   | true =>
    rw [cnd_tt (decide_eq_true (by simp only [decide_eq_true_eq] at h18; omega))]
    cases neg <;> rfl
   | false =>
    simp only [decide_eq_false_iff_not] at h18
    have e : cap18 (digP r).1 = (digP r).1 := List.take_of_length_le (by omega)
    have hbd := numD_bd hd (by omega)
    rw [cnd_ff (decide_eq_false (by omega)), e]
    cases neg with
    | true => rw [cnd_tt rfl, chk_i64 (by omega) (by omega)]; rfl
    | false => rfl
 unfold rReadInt
 rw [chk_inR h0 hlt, hbt, h45, hpos]
 unfold intP
 simp only
 cases hn : decide ((c0 :: r0).head? = some 45) with
 | true =>
  have hr : Suf r0 S := h.tail
  have hl2 := hr.len
  have hlop : lop (fun σ => rReadInt_b1 S ((S.length : Int) - (c0 :: r0).length) σ.1 σ.2) F ((S.length : Int) - r0.length, 0) = some (.go ((S.length : Int) - (digP r0).2.length, numD (cap18 ([] ++ (digP r0).1)))) := rInt_lop (a := (S.length : Int) - (c0 :: r0).length + 1) (fun x n => rReadInt_b1 S ((S.length : Int) - (c0 :: r0).length) x n) hS (fun x n => rfl) r0 [] F hr rfl (by rw [hpos]; simp) (by simp; omega) (by omega)
  rw [cnd_tt rfl, chk_i64 (by omega) (by omega), obn_s hlop, oute_go]
  have := fin true r0 ((S.length : Int) - (c0 :: r0).length + 1) (rReadInt_k1 S ((S.length : Int) - (c0 :: r0).length)) hr (by rw [hpos]) (fun x n hx1 hx2 => by
   unfold rReadInt_k1
   have e1 : decide ((S.length : Int) - (c0 :: r0).length < (S.length : Int) - (c0 :: r0).length + 1) = true := decide_eq_true (by omega)
   have e2 : imp (!(decide (x = ((S.length : Int) - (c0 :: r0).length + 1)))) (inR ((S.length : Int) - (c0 :: r0).length + 1) (S.length : Int)) = true := by
    cases hd : decide (x = ((S.length : Int) - (c0 :: r0).length + 1)) with
    | true => rfl
    | false =>
     simp only [decide_eq_false_iff_not] at hd
     rw [inR' (by omega) (by omega)]; rfl
   have e3 : ∀ y : Option (List TApiCell × Int), chk (inK .i64 (-2000000000000)) y = y := fun y => chk_i64 (by decide) (by decide)
   rw [e1, chk_t e2, e3])
  simp only [List.nil_append]
  rw [this]
  have hw : Suf (digP r0).2 S := by have := digP_eq r0; rw [this] at hr; exact hr.app
  simp only [cond_true, List.tail_cons]
  cases canon true (digP r0).1 with
  | true => exact .inl ⟨_, _, rfl, hw, rfl⟩
  | false => exact .inr ⟨rfl, rfl⟩
 | false =>
  have hl2 := h.len
  have hlop : lop (fun σ => rReadInt_b2 S ((S.length : Int) - (c0 :: r0).length) σ.1 σ.2) F ((S.length : Int) - (c0 :: r0).length, 0) = some (.go ((S.length : Int) - (digP (c0 :: r0)).2.length, numD (cap18 ([] ++ (digP (c0 :: r0)).1)))) := rInt_lop (a := (S.length : Int) - (c0 :: r0).length) (fun x n => rReadInt_b2 S ((S.length : Int) - (c0 :: r0).length) x n) hS (fun x n => rfl) (c0 :: r0) [] F h rfl (by simp) (by simpa using hl) (by omega)
  rw [cnd_ff rfl, obn_s hlop, oute_go]
  have := fin false (c0 :: r0) ((S.length : Int) - (c0 :: r0).length) (rReadInt_k2 S ((S.length : Int) - (c0 :: r0).length)) h rfl (fun x n hx1 hx2 => by
   unfold rReadInt_k2
   have e1 : decide ((S.length : Int) - (c0 :: r0).length < (S.length : Int) - (c0 :: r0).length) = false := decide_eq_false (by omega)
   have e3 : ∀ y : Option (List TApiCell × Int), chk (inK .i64 (-2000000000000)) y = y := fun y => chk_i64 (by decide) (by decide)
   rw [e1, e3])
  simp only [List.nil_append]
  rw [this]
  have hw : Suf (digP (c0 :: r0)).2 S := by have := digP_eq (c0 :: r0); rw [this] at h; exact h.app
  simp only [cond_false]
  cases canon false (digP (c0 :: r0)).1 with
  | true => exact .inl ⟨_, _, rfl, hw, rfl⟩
  | false => exact .inr ⟨rfl, rfl⟩
end Go.Proofs.YtpmiamphppcfeaaGreatDoor

/-
 The reference's reader of values does what the plain reader of bytes does. Plain laws.
-/
namespace Go.Proofs.YtpmiamphppcfeaaGreatDoor
open Go
set_option linter.unusedVariables false
set_option linter.unusedSimpArgs false
theorem strP_last (b : Bool) : ∀ (n : Nat) (s t u : Str), s.length = n → strP b s = some (t, u) → ∃ p, s = p ++ 34 :: u := by
 intro n
 induction n using Nat.strongRecOn with
 | ind n ih =>
  intro s t u hn h
  cases s with
  | nil => cases h
  | cons c r =>
   simp only [List.length_cons] at hn
   rw [strP_cons] at h
   cases h1 : decide (c = 34) with
   | true =>
    rw [h1] at h; cases h
    simp only [decide_eq_true_eq] at h1
    exact ⟨[], by rw [h1]; rfl⟩
   | false =>
    rw [h1] at h
    simp only [cond_false] at h
    cases h2 : (b && !okc c) with
    | true => rw [h2] at h; cases h
    | false =>
     rw [h2] at h
     simp only [cond_false] at h
     cases h3 : decide (c = 92) with
     | true =>
      rw [h3] at h
      cases r with
      | nil => cases h
      | cons d r' =>
       simp only [cond_true] at h
       cases h4 : (decide (d = 34) || decide (d = 92)) with
       | false => rw [h4] at h; cases h
       | true =>
        rw [h4] at h
        simp only [cond_true] at h
        cases h5 : strP b r' with
        | none => rw [h5] at h; cases h
        | some q =>
         obtain ⟨t', u'⟩ := q
         rw [h5] at h; cases h
         simp only [List.length_cons] at hn
         obtain ⟨p, e⟩ := ih r'.length (by omega) r' t' u rfl h5
         exact ⟨c :: d :: p, by rw [e]; rfl⟩
     | false =>
      rw [h3] at h
      simp only [cond_false] at h
      cases h5 : strP b r with
      | none => rw [h5] at h; cases h
      | some q =>
       obtain ⟨t', u'⟩ := q
       rw [h5] at h; cases h
       obtain ⟨p, e⟩ := ih r.length (by omega) r t' u rfl h5
       exact ⟨c :: p, by rw [e]; rfl⟩
theorem keyP_app {b m : Bool} {last key : Option Str} {s u : Str} (h : keyP b m last s = some (key, u)) : ∃ p, s = p ++ u := by
 unfold keyP at h
 cases m with
 | false => cases h; exact ⟨[], rfl⟩
 | true =>
  simp only [cond_true] at h
  cases s with
  | nil => cases h
  | cons c r =>
   simp only at h
   cases h1 : decide (c = 34) with
   | false => rw [h1] at h; cases h
   | true =>
    rw [h1] at h
    simp only [cond_true] at h
    cases h2 : strP b r with
    | none => rw [h2] at h; cases h
    | some q =>
     obtain ⟨k, w⟩ := q
     obtain ⟨p, e⟩ := strP_last b _ r k w rfl h2
     rw [h2] at h
     simp only at h
     cases h3 : (b && !keyOk true last (some k)) with
     | true => rw [h3] at h; cases h
     | false =>
      rw [h3] at h
      simp only [cond_false] at h
      cases w with
      | nil => cases h
      | cons d w' =>
       simp only at h
       cases h4 : decide (d = 58) with
       | false => rw [h4] at h; cases h
       | true =>
        rw [h4] at h; cases h
        exact ⟨c :: (p ++ [34, d]), by rw [e]; simp⟩
theorem par_last (b : Bool) : ∀ F : Nat, (∀ s f u, par b F s = some (f, u) → ∃ p c, s = p ++ c :: u ∧ c ≠ 44) ∧ (∀ m last s g u, parL b F m last s = some (g, u) → ∃ p, s = p ++ closeC m :: u)
 | 0 => ⟨(fun s f u h => by rw [par.eq_def] at h; cases h), (fun m last s g u h => by rw [parL.eq_def] at h; cases h)⟩
 | F + 1 => by
  obtain ⟨ih1, ih2⟩ := par_last b F
  have hcl : ∀ m, closeC m ≠ 44 := fun m => by cases m <;> decide
  constructor
  ·intro s f u h
   rw [par_succ] at h
   cases h1 : pre [110, 117, 108, 108] s with
   | some r => rw [h1] at h; cases h; exact ⟨[110, 117, 108], 108, by have e := pre_len h1; exact e, by decide⟩
   | none =>
   rw [h1] at h; simp only at h
   cases h2 : pre [116, 114, 117, 101] s with
   | some r => rw [h2] at h; cases h; exact ⟨[116, 114, 117], 101, by have e := pre_len h2; exact e, by decide⟩
   | none =>
   rw [h2] at h; simp only at h
   cases h3 : pre [102, 97, 108, 115, 101] s with
   | some r => rw [h3] at h; cases h; exact ⟨[102, 97, 108, 115], 101, by have e := pre_len h3; exact e, by decide⟩
   | none =>
   rw [h3] at h; simp only at h
   cases s with
   | nil => cases h
   | cons c r =>
   simp only at h
   cases h4 : decide (c = 34) with
   | true =>
    rw [h4] at h; simp only [cond_true] at h
    cases h5 : strP b r with
    | none => rw [h5] at h; cases h
    | some q =>
     obtain ⟨t, w⟩ := q
     rw [h5] at h; cases h
     obtain ⟨p, e⟩ := strP_last b _ r t u rfl h5
     exact ⟨c :: p, 34, by rw [e]; rfl, by decide⟩
   | false =>
   rw [h4] at h; simp only [cond_false] at h
   cases h5 : (decide (c = 91) || decide (c = 123)) with
   | false =>
    rw [h5] at h; simp only [cond_false] at h
    unfold intP at h
    simp only at h
    have hsr : ∃ p, c :: r = p ++ (bif decide ((c :: r).head? = some 45) then (c :: r).tail else c :: r) := by
     cases decide ((c :: r).head? = some 45) with
     | true => exact ⟨[c], rfl⟩
     | false => exact ⟨[], rfl⟩
    generalize (bif decide ((c :: r).head? = some 45) then (c :: r).tail else c :: r) = r2 at h hsr
    cases hc : canon (decide ((c :: r).head? = some 45)) (digP r2).1 with
    | false => rw [hc] at h; cases h
    | true =>
     rw [hc] at h
     simp only [cond_true, Option.some.injEq, Prod.mk.injEq] at h
     obtain ⟨_, h⟩ := h
     obtain ⟨p, e⟩ := hsr
     have hne : (digP r2).1 ≠ [] := by
      intro e'
      rw [e'] at hc
      cases decide ((c :: r).head? = some 45) <;> cases hc
     have hd := digP_all r2
     have hl := List.dropLast_concat_getLast hne
     have hlast : isDig ((digP r2).1.getLast hne) = true := List.all_eq_true.1 hd _ (List.getLast_mem hne)
     refine ⟨p ++ (digP r2).1.dropLast, (digP r2).1.getLast hne, ?_, fun e' => by rw [e'] at hlast; cases hlast⟩
     rw [e, ← h]
     conv => lhs; rw [digP_eq r2, ← hl]
     simp
   | true =>
   rw [h5] at h; simp only [cond_true] at h
   cases r with
   | nil => cases h
   | cons d r' =>
   simp only at h
   cases h6 : decide (d = closeC (decide (c = 123))) with
   | true =>
    rw [h6] at h; cases h
    simp only [decide_eq_true_eq] at h6
    exact ⟨[c], d, rfl, by rw [h6]; exact hcl _⟩
   | false =>
   rw [h6] at h; simp only [cond_false] at h
   cases h7 : parL b F (decide (c = 123)) none (d :: r') with
   | none => rw [h7] at h; cases h
   | some q =>
    obtain ⟨g, w⟩ := q
    rw [h7] at h; cases h
    obtain ⟨p, e⟩ := ih2 _ _ _ _ _ h7
    exact ⟨c :: p, _, by rw [e]; rfl, hcl _⟩
  ·intro m last s g u h
   rw [parL_succ] at h
   cases h1 : keyP b m last s with
   | none => rw [h1] at h; cases h
   | some q =>
   obtain ⟨key, s1⟩ := q
   obtain ⟨p1, e1⟩ := keyP_app h1
   rw [h1] at h; simp only at h
   cases h2 : par b F s1 with
   | none => rw [h2] at h; cases h
   | some q =>
   obtain ⟨f, s2⟩ := q
   obtain ⟨p2, c2, e2, _⟩ := ih1 _ _ _ h2
   rw [h2] at h; simp only at h
   cases s2 with
   | nil => cases h
   | cons c s3 =>
   simp only at h
   cases h3 : decide (c = closeC m) with
   | true =>
    rw [h3] at h; cases h
    simp only [decide_eq_true_eq] at h3
    exact ⟨p1 ++ p2 ++ [c2], by rw [e1, e2, h3]; simp⟩
   | false =>
   rw [h3] at h; simp only [cond_false] at h
   cases h4 : decide (c = 44) with
   | false => rw [h4] at h; cases h
   | true =>
   rw [h4] at h; simp only [cond_true] at h
   cases h5 : parL b F m key s3 with
   | none => rw [h5] at h; cases h
   | some q =>
    obtain ⟨g', w⟩ := q
    rw [h5] at h; cases h
    obtain ⟨p3, e3⟩ := ih2 _ _ _ _ _ h5
    exact ⟨p1 ++ p2 ++ [c2, c] ++ p3, by rw [e1, e2, e3]; simp⟩
def rMB (cl : Str) (F : Nat) (s : Str) (rec_rRead : Str → Int → Option ((List TApiCell) × Int)) (x443 : (List TApiCell)) (x445 : Int) (x446 : TApiCell) : Option (Stp ((List TApiCell) × Int × TApiCell) (Out ((List TApiCell) × Int) ((List TApiCell) × Int × TApiCell))) :=
 chk ((rStarts s x445 cl).isSome) <| chk (imp (!(!(ov (rStarts s x445 cl)))) (imp (decide (0 < x446.fN)) (inK .i64 (x445 - 1)))) <| chk (imp (!(!(ov (rStarts s x445 cl)))) (imp (decide (0 < x446.fN)) (inR (x445 - 1) (s.length : Int)))) <| cnd (((!(ov (rStarts s x445 cl))) || ((decide (0 < x446.fN)) && (decide ((bat s (x445 - 1)) = 44))))) (cnd (decide (x446.fKind = 6)) (obn (rReadString F s x445) fun r551 => chk (imp (!(decide (r551.2 < 0))) ((rStarts s r551.2 ([58] : Str)).isSome)) <| cnd (((decide (r551.2 < 0)) || (!(ov (rStarts s r551.2 ([58] : Str)))))) (some (.out (.ret (([] : List TApiCell), (-1))))) (chk (inA 40 (x443.length + ([(TApiCell.mk 4 0 r551.1 0)] : List TApiCell).length)) <| chk (inK .i64 (r551.2 + 1)) <| obn (rec_rRead s (r551.2 + 1)) fun r567 => cnd (decide (r567.2 < 0)) (some (.out (.ret (([] : List TApiCell), (-1))))) (chk (inA 40 ((x443 ++ ([(TApiCell.mk 4 0 r551.1 0)] : List TApiCell)).length + r567.1.length)) <| chk (inK .i64 (x446.fN + 1)) <| obn (rStarts s r567.2 ([44] : Str)) fun r579 => cnd (r579) (chk (inK .i64 (r567.2 + 1)) <| some (.next ((x443 ++ ([(TApiCell.mk 4 0 r551.1 0)] : List TApiCell)) ++ r567.1, r567.2 + 1, (TApiCell.mk x446.fKind x446.fInt x446.fStr (x446.fN + 1))))) (obn (rStarts s r567.2 cl) fun r588 => cnd (!r588) (some (.out (.ret (([] : List TApiCell), (-1))))) (some (.next ((x443 ++ ([(TApiCell.mk 4 0 r551.1 0)] : List TApiCell)) ++ r567.1, r567.2, (TApiCell.mk x446.fKind x446.fInt x446.fStr (x446.fN + 1))))))))) (obn (rec_rRead s x445) fun r597 => cnd (decide (r597.2 < 0)) (some (.out (.ret (([] : List TApiCell), (-1))))) (chk (inA 40 (x443.length + r597.1.length)) <| chk (inK .i64 (x446.fN + 1)) <| obn (rStarts s r597.2 ([44] : Str)) fun r609 => cnd (r609) (chk (inK .i64 (r597.2 + 1)) <| some (.next (x443 ++ r597.1, r597.2 + 1, (TApiCell.mk x446.fKind x446.fInt x446.fStr (x446.fN + 1))))) (obn (rStarts s r597.2 cl) fun r618 => cnd (!r618) (some (.out (.ret (([] : List TApiCell), (-1))))) (some (.next (x443 ++ r597.1, r597.2, (TApiCell.mk x446.fKind x446.fInt x446.fStr (x446.fN + 1))))))))) (some (.out (.go (x443, x445, x446))))
def ROk (F P : Nat) (S u : Str) : Prop :=
 (∃ f w, par false P u = some (f, w) ∧ Suf w S ∧ rRead F S ((S.length : Int) - u.length) = some (f.flat, (S.length : Int) - w.length)) ∨ (par false P u = none ∧ ∃ v, rRead F S ((S.length : Int) - u.length) = some (v, -1))
abbrev RLB (m : Bool) (F : Nat) (S : Str) (G : Nat) : List TApiCell × Int × TApiCell → Option (Stp (List TApiCell × Int × TApiCell) (Out (List TApiCell × Int) (List TApiCell × Int × TApiCell))) := fun σ => rMB [closeC m] F S (rRead G) σ.1 σ.2.1 σ.2.2
def hd (m : Bool) (N : Int) : TApiCell := ⟨bif m then 6 else 5, 0, [], N⟩
theorem hd_kind (m : Bool) (N : Int) : decide ((hd m N).fKind = 6) = m := by cases m <;> rfl
theorem rMB_round {m : Bool} {F G P : Nat} {S u : Str} {out : List TApiCell} {N : Int} (hS : S.length ≤ 100000) (hs : Suf u S) (hF : S.length < F) (hN0 : 0 ≤ N) (hN : N ≤ 200000) (ho : out.length + u.length ≤ S.length) (hA : (pre [closeC m] u).isSome = false ∨ (0 < N ∧ Suf (44 :: u) S))
  (hR : ∀ w, Suf w S → w.length ≤ u.length → ROk G P S w) :
  (∃ v, RLB m F S G (out, (S.length : Int) - u.length, hd m N) = some (.out (.ret (v, -1))) ∧ (keyP false m none u = none ∨ ∃ key s1, keyP false m none u = some (key, s1) ∧ (par false P s1 = none ∨ ∃ f s2, par false P s1 = some (f, s2) ∧ ∀ c s3, s2 = c :: s3 → decide (c = closeC m) = false ∧ decide (c = 44) = false))) ∨
  ∃ key s1 f s2, keyP false m none u = some (key, s1) ∧ par false P s1 = some (f, s2) ∧ Suf s2 S ∧ ((∃ s3, s2 = closeC m :: s3 ∧ RLB m F S G (out, (S.length : Int) - u.length, hd m N) = some (.next (out ++ (keyC key ++ f.flat), (S.length : Int) - s2.length, hd m (N + 1)))) ∨ (∃ s3, s2 = 44 :: s3 ∧ RLB m F S G (out, (S.length : Int) - u.length, hd m N) = some (.next (out ++ (keyC key ++ f.flat), (S.length : Int) - s3.length, hd m (N + 1))))) := by
 have hsl := hs.len
 have hb0 : RLB m F S G (out, (S.length : Int) - u.length, hd m N) = rMB [closeC m] F S (rRead G) out ((S.length : Int) - u.length) (hd m N) := rfl
 have hst := rStarts_eq (w := [closeC m]) hS (by simp) hs
 -- the test
 have htest : rMB [closeC m] F S (rRead G) out ((S.length : Int) - u.length) (hd m N) = cnd m (obn (rReadString F S ((S.length : Int) - u.length)) fun r551 => chk (imp (!(decide (r551.2 < 0))) ((rStarts S r551.2 ([58] : Str)).isSome)) <| cnd (((decide (r551.2 < 0)) || (!(ov (rStarts S r551.2 ([58] : Str)))))) (some (.out (.ret (([] : List TApiCell), (-1))))) (chk (inA 40 (out.length + ([(TApiCell.mk 4 0 r551.1 0)] : List TApiCell).length)) <| chk (inK .i64 (r551.2 + 1)) <| obn (rRead G S (r551.2 + 1)) fun r567 => cnd (decide (r567.2 < 0)) (some (.out (.ret (([] : List TApiCell), (-1))))) (chk (inA 40 ((out ++ ([(TApiCell.mk 4 0 r551.1 0)] : List TApiCell)).length + r567.1.length)) <| chk (inK .i64 (N + 1)) <| obn (rStarts S r567.2 ([44] : Str)) fun r579 => cnd (r579) (chk (inK .i64 (r567.2 + 1)) <| some (.next ((out ++ ([(TApiCell.mk 4 0 r551.1 0)] : List TApiCell)) ++ r567.1, r567.2 + 1, hd m (N + 1)))) (obn (rStarts S r567.2 [closeC m]) fun r588 => cnd (!r588) (some (.out (.ret (([] : List TApiCell), (-1))))) (some (.next ((out ++ ([(TApiCell.mk 4 0 r551.1 0)] : List TApiCell)) ++ r567.1, r567.2, hd m (N + 1)))))))) (obn (rRead G S ((S.length : Int) - u.length)) fun r597 => cnd (decide (r597.2 < 0)) (some (.out (.ret (([] : List TApiCell), (-1))))) (chk (inA 40 (out.length + r597.1.length)) <| chk (inK .i64 (N + 1)) <| obn (rStarts S r597.2 ([44] : Str)) fun r609 => cnd (r609) (chk (inK .i64 (r597.2 + 1)) <| some (.next (out ++ r597.1, r597.2 + 1, hd m (N + 1)))) (obn (rStarts S r597.2 [closeC m]) fun r618 => cnd (!r618) (some (.out (.ret (([] : List TApiCell), (-1))))) (some (.next (out ++ r597.1, r597.2, hd m (N + 1))))))) := by
  unfold rMB
  rw [hst, chk_t (p := (some (pre [closeC m] u).isSome).isSome) rfl, ov_some, hd_kind]
  rcases hA with h0 | ⟨hp, hc⟩
  ·rw [h0, chk_t (p := imp (!(!false)) _) rfl, chk_t (p := imp (!(!false)) _) rfl, cnd_tt (p := !false || _) rfl]
   rfl
  ·have hcl := hc.len
   simp only [List.length_cons] at hcl
   have hb44 : bat S ((S.length : Int) - u.length - 1) = 44 := by
    have := bat_get hc.get
    rw [List.length_cons] at this
    rw [show (S.length : Int) - u.length - 1 = (S.length : Int) - ((u.length + 1 : Nat) : Int) from by omega]
    exact this
   have hN' : decide (0 < (hd m N).fN) = true := decide_eq_true hp
   rw [hN', hb44, inK_i64' (by omega) (by omega), inR' (by omega) (by omega), chk_t (p := imp _ (imp true true)) (by cases (pre [closeC m] u).isSome <;> rfl), chk_t (p := imp _ (imp true true)) (by cases (pre [closeC m] u).isSome <;> rfl), cnd_tt (p := _ || (true && decide ((44 : Int) = 44))) (by cases (pre [closeC m] u).isSome <;> rfl)]
   rfl
 rw [hb0, htest]
 have p44 : ∀ s2 : Str, (pre [44] s2).isSome = match s2 with | [] => false | c :: _ => decide (c = 44) := fun s2 => by
  rw [pre1]
  cases s2 with
  | nil => rfl
  | cons c s3 => simp only; cases decide (c = 44) <;> rfl
 have pcl : ∀ s2 : Str, (pre [closeC m] s2).isSome = match s2 with | [] => false | c :: _ => decide (c = closeC m) := fun s2 => by
  rw [pre1]
  cases s2 with
  | nil => rfl
  | cons c s3 => simp only; cases decide (c = closeC m) <;> rfl
 have hcl44 : decide (closeC m = 44) = false := by cases m <;> rfl
 cases m with
 | false =>
  rw [cnd_ff rfl]
  have hkp : keyP false false none u = some (none, u) := rfl
  rcases hR u hs (Nat.le_refl _) with ⟨f, s2, q1, q2, q3⟩ | ⟨q1, v, q2⟩
  ·have hfl := (par_flat false P).1 _ _ _ q1
   have h2l := q2.len
   rw [q3, obn_s rfl, cnd_ff (decide_eq_false (by simp only; omega)), chk_A40 (by simp only; omega), chk_i64 (by omega) (by omega), rStarts_eq hS (by simp) q2, obn_s rfl, p44]
   cases s2 with
   | nil =>
    rw [cnd_ff rfl, rStarts_eq hS (by simp) q2, obn_s rfl, pcl]
    exact .inl ⟨[], rfl, .inr ⟨none, u, hkp, .inr ⟨f, [], q1, fun c s3 e => by cases e⟩⟩⟩
   | cons c s3 =>
    simp only
    cases h44 : decide (c = 44) with
    | true =>
     simp only [decide_eq_true_eq] at h44
     subst h44
     simp only [List.length_cons] at h2l
     rw [cnd_tt rfl, chk_i64 (by simp only [List.length_cons]; omega) (by simp only [List.length_cons]; omega)]
     refine .inr ⟨none, u, f, _, hkp, q1, q2, .inr ⟨s3, rfl, ?_⟩⟩
     simp only [List.length_cons, keyC, List.nil_append]
     congr 4
     omega
    | false =>
     rw [cnd_ff rfl, rStarts_eq hS (by simp) q2, obn_s rfl, pcl]
     simp only
     cases hcc : decide (c = closeC false) with
     | true =>
      simp only [decide_eq_true_eq] at hcc
      subst hcc
      exact .inr ⟨none, u, f, _, hkp, q1, q2, .inl ⟨s3, rfl, rfl⟩⟩
     | false => exact .inl ⟨[], rfl, .inr ⟨none, u, hkp, .inr ⟨f, _, q1, fun c' s3' e => by cases e; exact ⟨hcc, h44⟩⟩⟩⟩
  ·rw [q2, obn_s rfl]
   exact .inl ⟨[], rfl, .inr ⟨none, u, hkp, .inl q1⟩⟩
 | true =>
  rw [cnd_tt rfl]
  rcases rReadString_eq hS hs hF with ⟨r, t, w, e1, e2, e3, e4⟩ | ⟨e1, e2⟩
  ·have hwl := e3.len
   have hwl2 := strP_len false _ r t w rfl e2
   subst e1
   have hul : (34 :: r).length = r.length + 1 := rfl
   rw [e4, obn_s rfl]
   have hkc : keyP false true none (34 :: r) = colP t w := by rw [keyP_34, e2]; rfl
   have hlt : decide ((S.length : Int) - w.length < 0) = false := decide_eq_false (by omega)
   simp only
   rw [hlt, rStarts_eq hS (by simp) e3, chk_t (p := imp (!false) (some (pre [58] w).isSome).isSome) rfl, ov_some, pre1]
   cases w with
   | nil => exact .inl ⟨[], rfl, .inl (by rw [hkc]; rfl)⟩
   | cons d s1 =>
    simp only
    cases hd58 : decide (d = 58) with
    | false =>
     refine .inl ⟨[], rfl, .inl ?_⟩
     rw [hkc]
     show (bif decide (d = 58) then _ else none) = none
     rw [hd58]; rfl
    | true =>
     simp only [decide_eq_true_eq] at hd58
     subst hd58
     have hkp : keyP false true none (34 :: r) = some (some t, s1) := hkc
     simp only [List.length_cons] at hwl hwl2
     have hpos : (S.length : Int) - (58 :: s1).length + 1 = S.length - s1.length := by rw [List.length_cons]; omega
     simp only [cond_true]
     rw [cnd_ff (p := false || !(some s1).isSome) rfl, chk_A40 (by rw [List.length_singleton]; omega), hpos, chk_i64 (by omega) (by omega)]
     rcases hR s1 e3.tail (by omega) with ⟨f, s2, q1, q2, q3⟩ | ⟨q1, v, q2⟩
     ·have hfl := (par_flat false P).1 _ _ _ q1
      have h2l := q2.len
      rw [q3, obn_s rfl, cnd_ff (decide_eq_false (by simp only; omega)), chk_A40 (by simp only [List.length_append, List.length_singleton]; omega), chk_i64 (by omega) (by omega), rStarts_eq hS (by simp) q2, obn_s rfl, p44]
      cases s2 with
      | nil =>
       rw [cnd_ff rfl, rStarts_eq hS (by simp) q2, obn_s rfl, pcl]
       exact .inl ⟨[], rfl, .inr ⟨some t, s1, hkp, .inr ⟨f, [], q1, fun c s3 e => by cases e⟩⟩⟩
      | cons c s3 =>
       simp only
       cases h44 : decide (c = 44) with
       | true =>
        simp only [decide_eq_true_eq] at h44
        subst h44
        simp only [List.length_cons] at h2l
        rw [cnd_tt rfl, chk_i64 (by simp only [List.length_cons]; omega) (by simp only [List.length_cons]; omega)]
        refine .inr ⟨some t, s1, f, _, hkp, q1, q2, .inr ⟨s3, rfl, ?_⟩⟩
        simp only [List.length_cons, keyC, List.append_assoc]
        congr 4
        omega
       | false =>
        rw [cnd_ff rfl, rStarts_eq hS (by simp) q2, obn_s rfl, pcl]
        simp only
        cases hcc : decide (c = closeC true) with
        | true =>
         simp only [decide_eq_true_eq] at hcc
         subst hcc
         exact .inr ⟨some t, s1, f, _, hkp, q1, q2, .inl ⟨s3, rfl, by rw [List.append_assoc]; rfl⟩⟩
        | false => exact .inl ⟨[], rfl, .inr ⟨some t, s1, hkp, .inr ⟨f, _, q1, fun c' s3' e => by cases e; exact ⟨hcc, h44⟩⟩⟩⟩
     ·rw [q2, obn_s rfl]
      exact .inl ⟨[], rfl, .inr ⟨some t, s1, hkp, .inl q1⟩⟩
  ·rw [e2, obn_s rfl]
   refine .inl ⟨[], ?_, .inl (keyP_no _ _ e1)⟩
   rfl
end Go.Proofs.YtpmiamphppcfeaaGreatDoor

/-
 The reference's reader of values: all of it. Plain laws.
-/
namespace Go.Proofs.YtpmiamphppcfeaaGreatDoor
open Go
set_option linter.unusedVariables false
set_option linter.unusedSimpArgs false
theorem keyP_last (m : Bool) (last : Option Str) (s : Str) : keyP false m last s = keyP false m none s := by
 cases m with
 | false => rfl
 | true =>
  cases s with
  | nil => rfl
  | cons c r =>
   by_cases hc : c = 34
   ·subst hc
    rw [keyP_34, keyP_34]
    cases strP false r with
    | none => rfl
    | some q => rfl
   ·show (bif decide (c = 34) then _ else none) = (bif decide (c = 34) then _ else none)
    rw [decide_eq_false hc]; rfl
theorem rMB_close {m : Bool} {F G : Nat} {S w : Str} {out : List TApiCell} {N : Int} (hS : S.length ≤ 100000) (hs : Suf (closeC m :: w) S) (hN0 : 0 ≤ N) (h : N = 0 ∨ ∃ c, c ≠ 44 ∧ Suf (c :: closeC m :: w) S) :
  RLB m F S G (out, (S.length : Int) - (closeC m :: w).length, hd m N) = some (.out (.go (out, (S.length : Int) - (closeC m :: w).length, hd m N))) := by
 have hb0 : RLB m F S G (out, (S.length : Int) - (closeC m :: w).length, hd m N) = rMB [closeC m] F S (rRead G) out ((S.length : Int) - (closeC m :: w).length) (hd m N) := rfl
 rw [hb0]
 have hsl := hs.len
 have hp : pre [closeC m] (closeC m :: w) = some w := by rw [pre1]; simp
 unfold rMB
 rw [rStarts_eq hS (by simp) hs, hp, chk_t (p := (some (some w).isSome).isSome) rfl, ov_some]
 rcases h with h0 | ⟨c, hc, hcs⟩
 ·subst h0
  have e : decide (0 < (hd m 0).fN) = false := rfl
  rw [e]; rfl
 ·have hcl := hcs.len
  simp only [List.length_cons] at hcl hsl
  have hbt : bat S ((S.length : Int) - (closeC m :: w).length - 1) = c.toNat := by
   have := bat_get hcs.get
   rw [List.length_cons] at this
   rw [show (S.length : Int) - (closeC m :: w).length - 1 = (S.length : Int) - (((closeC m :: w).length + 1 : Nat) : Int) from by omega]
   exact this
  have h44 : decide ((c.toNat : Int) = 44) = false := decide_eq_false (fun e => hc (by rw [← UInt8.toNat_inj]; show c.toNat = 44; omega))
  have i1 : inK .i64 ((S.length : Int) - (closeC m :: w).length - 1) = true := inK_i64' (by simp only [List.length_cons]; omega) (by simp only [List.length_cons]; omega)
  have i2 : inR ((S.length : Int) - (closeC m :: w).length - 1) (S.length : Int) = true := inR' (by simp only [List.length_cons]; omega) (by omega)
  rw [i1, i2, hbt, h44]
  cases decide (0 < (hd m N).fN) <;> rfl
def RLk (P : Nat) (m : Bool) (last : Option Str) (S u : Str) (out : List TApiCell) (N : Int) (o : Out (List TApiCell × Int) (List TApiCell × Int × TApiCell)) : Prop :=
 (∃ G w, parL false P m last u = some (G, w) ∧ Suf (closeC m :: w) S ∧ o = .go (out ++ G.flat, (S.length : Int) - (closeC m :: w).length, hd m (N + (G.cnt : Int)))) ∨ (parL false P m last u = none ∧ ∃ v, o = .ret (v, -1))
theorem r_all {S : Str} (hS : S.length ≤ 100000) : ∀ n : Nat,
  (∀ (F P : Nat) (u : Str), u.length = n → Suf u S → S.length + 2 * n + 5 < F → 2 * n + 2 ≤ P → ROk F P S u) ∧
  (∀ (m : Bool) (F G P L : Nat) (u : Str) (last : Option Str) (out : List TApiCell) (N : Int), u.length = n → Suf u S → S.length < F → S.length + 2 * n + 5 < G → 2 * n + 3 ≤ P → n + 1 < L → out.length + n ≤ S.length → 0 ≤ N → N + n ≤ S.length + 1 → ((pre [closeC m] u).isSome = false ∨ (0 < N ∧ Suf (44 :: u) S)) →
   ∃ o, lop (RLB m F S G) L (out, (S.length : Int) - u.length, hd m N) = some o ∧ RLk P m last S u out N o) := by
 intro n
 induction n using Nat.strongRecOn with
 | ind n ih =>
 have hV : ∀ (F P : Nat) (u : Str), u.length = n → Suf u S → S.length + 2 * n + 5 < F → 2 * n + 2 ≤ P → ROk F P S u := by
  intro F P u hn hs hF hP
  obtain ⟨F, rfl⟩ : ∃ K, F = K + 1 := ⟨F - 1, by omega⟩
  obtain ⟨P, rfl⟩ : ∃ K, P = K + 1 := ⟨P - 1, by omega⟩
  have hsl := hs.len
  unfold ROk
  rw [rRead]
  unfold rReadm
  rw [par_succ]
  have word : ∀ (w : Str) (k : Nat) (r : Str), pre w u = some r → w.length = k → Suf r S ∧ (S.length : Int) - u.length + k = S.length - r.length := fun w k r hp hk => by
   have e := pre_len hp
   have hl : u.length = w.length + r.length := by rw [e]; simp
   refine ⟨?_, by omega⟩
   rw [e] at hs; exact hs.app
  by_cases hu : u = []
  ·subst hu
   rw [cnd_tt (decide_eq_true (by simp))]
   exact .inr ⟨rfl, [], rfl⟩
  have hne : 0 < u.length := List.length_pos_iff.2 hu
  rw [cnd_ff (decide_eq_false (by omega)), rStarts_eq hS (by decide) hs, obn_s rfl]
  cases h1 : pre [110, 117, 108, 108] u with
  | some r =>
   obtain ⟨hr, hp⟩ := word _ 4 r h1 rfl
   have hp : (S.length : Int) - u.length + 4 = S.length - r.length := hp
   rw [cnd_tt (p := (some r).isSome) rfl, hp]
   refine .inl ⟨_, r, rfl, hr, ?_⟩
   show (obn (rNull) fun r9 => chk (inK .i64 ((S.length : Int) - r.length)) <| some (r9, (S.length : Int) - r.length)) = _
   unfold rNull
   rw [obn_s rfl, chk_i64 (by omega) (by omega)]; rfl
  | none =>
  rw [cnd_ff (p := (none : Option Str).isSome) rfl, rStarts_eq hS (by decide) hs, obn_s rfl]
  simp only
  cases h2 : pre [116, 114, 117, 101] u with
  | some r =>
   obtain ⟨hr, hp⟩ := word _ 4 r h2 rfl
   have hp : (S.length : Int) - u.length + 4 = S.length - r.length := hp
   rw [cnd_tt (p := (some r).isSome) rfl, hp]
   refine .inl ⟨_, r, rfl, hr, ?_⟩
   show (obn (rBool true) fun r9 => chk (inK .i64 ((S.length : Int) - r.length)) <| some (r9, (S.length : Int) - r.length)) = _
   rw [show rBool true = some [⟨2, 1, [], 0⟩] from rfl, obn_s rfl, chk_i64 (by omega) (by omega)]; rfl
  | none =>
  rw [cnd_ff (p := (none : Option Str).isSome) rfl, rStarts_eq hS (by decide) hs, obn_s rfl]
  simp only
  cases h3 : pre [102, 97, 108, 115, 101] u with
  | some r =>
   obtain ⟨hr, hp⟩ := word _ 5 r h3 rfl
   have hp : (S.length : Int) - u.length + 5 = S.length - r.length := hp
   rw [cnd_tt (p := (some r).isSome) rfl, hp]
   refine .inl ⟨_, r, rfl, hr, ?_⟩
   show (obn (rBool false) fun r9 => chk (inK .i64 ((S.length : Int) - r.length)) <| some (r9, (S.length : Int) - r.length)) = _
   rw [show rBool false = some [⟨2, 0, [], 0⟩] from rfl, obn_s rfl, chk_i64 (by omega) (by omega)]; rfl
  | none =>
  rw [cnd_ff (p := (none : Option Str).isSome) rfl]
  simp only
  cases u with
  | nil => exact absurd rfl hu
  | cons c r =>
  have hbt : bat S ((S.length : Int) - (c :: r).length) = c.toNat := bat_get hs.get
  have hpos : (S.length : Int) - (c :: r).length + 1 = S.length - r.length := by rw [List.length_cons]; omega
  simp only [List.length_cons] at hn hsl
  have hlt : (S.length : Int) - (c :: r).length < S.length := by rw [List.length_cons]; omega
  have h0 : 0 ≤ (S.length : Int) - (c :: r).length := by rw [List.length_cons]; omega
  rw [chk_inR h0 hlt, hbt, int34]
  simp only
  cases h34 : decide (c = 34) with
  | true =>
   rw [cnd_tt rfl]
   simp only [decide_eq_true_eq] at h34
   subst h34
   simp only [cond_true]
   rcases rReadString_eq hS hs (F := F) (by omega) with ⟨r', t, w, e1, e2, e3, e4⟩ | ⟨e1, e2⟩
   ·cases e1
    rw [e4, e2, obn_s rfl]
    exact .inl ⟨_, w, rfl, e3, rfl⟩
   ·rw [e2, e1 r rfl, obn_s rfl]
    exact .inr ⟨rfl, _, rfl⟩
  | false =>
  rw [cnd_ff rfl]
  simp only [cond_false]
  have i91 : decide ((c.toNat : Int) = 91) = decide (c = 91) := by
   rw [Bool.eq_iff_iff, decide_eq_true_iff, decide_eq_true_iff, ← UInt8.toNat_inj]
   show _ ↔ c.toNat = 91
   omega
  have i123 : decide ((c.toNat : Int) = 123) = decide (c = 123) := by
   rw [Bool.eq_iff_iff, decide_eq_true_iff, decide_eq_true_iff, ← UInt8.toNat_inj]
   show _ ↔ c.toNat = 123
   omega
  rw [i91, i123]
  cases hb : (decide (c = 91) || decide (c = 123)) with
  | false =>
   rw [cnd_ff rfl]
   simp only [cond_false]
   rcases rReadInt_eq (F := F) hS hs (by omega) with ⟨f, w, e1, e2, e3⟩ | ⟨e1, e2⟩
   ·rw [e3, obn_s rfl]; exact .inl ⟨f, w, e1, e2, rfl⟩
   ·rw [e2, obn_s rfl]; exact .inr ⟨e1, _, rfl⟩
  | true =>
  rw [cnd_tt rfl]
  simp only [cond_true]
  obtain ⟨F, rfl⟩ : ∃ K, F = K + 1 := ⟨F - 1, by omega⟩
  -- the loop over parts, and what stands behind it
  have hmany : ∀ m : Bool, decide (c = 123) = m → (∃ f w, brkP false P m r = some (f, w) ∧ Suf w S ∧ rReadMany (F + 1) S ((S.length : Int) - (c :: r).length) = some (f.flat, (S.length : Int) - w.length)) ∨ (brkP false P m r = none ∧ ∃ v, rReadMany (F + 1) S ((S.length : Int) - (c :: r).length) = some (v, -1)) := fun m hm => by
   have hrun : rReadMany (F + 1) S ((S.length : Int) - (c :: r).length) = obn (lop (RLB m F S F) F ([], (S.length : Int) - r.length, hd m 0)) (oute fun ν => (chk (inA 40 (([ν.2.2] : List TApiCell).length + ν.1.length)) <| chk (inK .i64 (ν.2.1 + 1)) <| some (([ν.2.2] : List TApiCell) ++ ν.1, ν.2.1 + 1))) := by
    rw [rReadMany]
    unfold rReadManym
    rw [chk_inR h0 hlt, hbt, i123, hm, hpos]
    cases m with
    | true => rw [cnd_tt rfl, chk_i64 (by omega) (by omega)]; rfl
    | false => rw [cnd_ff rfl, chk_i64 (by omega) (by omega)]; rfl
   have hend : ∀ (g : Fo) (w : Str) (o : Out (List TApiCell × Int) (List TApiCell × Int × TApiCell)), Suf (closeC m :: w) S → g.flat.length ≤ 200000 → o = .go ([] ++ g.flat, (S.length : Int) - (closeC m :: w).length, hd m (0 + (g.cnt : Int))) → oute (fun ν : List TApiCell × Int × TApiCell => (chk (inA 40 (([ν.2.2] : List TApiCell).length + ν.1.length)) <| chk (inK .i64 (ν.2.1 + 1)) <| some (([ν.2.2] : List TApiCell) ++ ν.1, ν.2.1 + 1))) o = some ((nd m g).flat, (S.length : Int) - w.length) := fun g w o hsw hgl ho => by
    have hwl := hsw.len
    simp only [List.length_cons] at hwl
    rw [ho, oute_go, nd_flat _ _ cnt_nil, List.nil_append]
    simp only
    rw [chk_A40 (by rw [List.length_singleton]; omega), show (S.length : Int) - (closeC m :: w).length + 1 = S.length - w.length from by rw [List.length_cons]; omega, chk_i64 (by omega) (by omega), Int.zero_add]
    rfl
   rw [hrun]
   by_cases hcl : ∃ w, r = closeC m :: w
   ·obtain ⟨w, rfl⟩ := hcl
    obtain ⟨F', rfl⟩ : ∃ K, F = K + 1 := ⟨F - 1, by omega⟩
    have hg := rMB_close (F := F' + 1) (G := F' + 1) (out := []) (N := 0) hS hs.tail (Int.le_refl 0) (.inl rfl)
    rw [obn_s (lop_o hg)]
    refine .inl ⟨nd m .nil, w, ?_, hs.tail.tail, ?_⟩
    ·rw [brkP_cons, decide_eq_true rfl]; rfl
    ·exact hend .nil w _ hs.tail (Nat.zero_le _) rfl
   ·have hA : (pre [closeC m] r).isSome = false := by
     rw [pre1]
     cases r with
     | nil => rfl
     | cons d r' =>
      simp only
      by_cases hd' : d = closeC m
      ·exact absurd ⟨r', by rw [hd']⟩ hcl
      ·rw [decide_eq_false hd']; rfl
    obtain ⟨o, ho1, ho2⟩ := (ih r.length (by omega)).2 m F F P F r none [] 0 rfl hs.tail (by omega) (by omega) (by omega) (by omega) (by simp; omega) (Int.le_refl 0) (by omega) (.inl hA)
    rw [obn_s ho1]
    have hbk : brkP false P m r = match parL false P m none r with
      | none => none
      | some (g, u) => some (nd m g, u) := by
     cases r with
     | nil =>
      have : parL false P m none [] = none := by
       cases hp : parL false P m none [] with
       | none => rfl
       | some q => obtain ⟨g, u⟩ := q; exact absurd ((par_len false P).2 _ _ _ _ _ hp).1 (by simp)
      rw [this]; rfl
     | cons d r' =>
      rw [brkP_cons]
      by_cases hd' : d = closeC m
      ·exact absurd ⟨r', by rw [hd']⟩ hcl
      ·rw [decide_eq_false hd']; rfl
    rw [hbk]
    rcases ho2 with ⟨g, w, q1, q2, q3⟩ | ⟨q1, v, q2⟩
    ·rw [q1]
     have hgl := (par_flat false P).2 _ _ _ _ _ q1
     exact .inl ⟨_, w, rfl, q2.tail, hend g w o q2 (by omega) q3⟩
    ·rw [q1, q2]
     exact .inr ⟨rfl, v, rfl⟩
  have hgoal : (∃ f w, brkP false P (decide (c = 123)) r = some (f, w) ∧ Suf w S ∧ (obn (rReadMany (F + 1) S ((S.length : Int) - (c :: r).length)) fun r49 => some (r49.1, r49.2)) = some (f.flat, (S.length : Int) - w.length)) ∨ (brkP false P (decide (c = 123)) r = none ∧ ∃ v, (obn (rReadMany (F + 1) S ((S.length : Int) - (c :: r).length)) fun r49 => some (r49.1, r49.2)) = some (v, -1)) := by
   rcases hmany (decide (c = 123)) rfl with ⟨f, w, q1, q2, q3⟩ | ⟨q1, v, q2⟩
   ·rw [q3, obn_s rfl]; exact .inl ⟨f, w, q1, q2, rfl⟩
   ·rw [q2, obn_s rfl]; exact .inr ⟨q1, v, rfl⟩
  cases r with
  | nil => exact hgoal
  | cons d r' => exact hgoal
 refine ⟨hV, ?_⟩
 intro m F G P L u last out N hn hs hF hG hP hL hb hN0 hN hA
 obtain ⟨P, rfl⟩ : ∃ K, P = K + 1 := ⟨P - 1, by omega⟩
 obtain ⟨L, rfl⟩ : ∃ K, L = K + 1 := ⟨L - 1, by omega⟩
 have hsl := hs.len
 have hR : ∀ w, Suf w S → w.length ≤ u.length → ROk G P S w := fun w hw hwl => by
  rcases Nat.lt_or_eq_of_le hwl with h | h
  ·exact (ih w.length (by omega)).1 G P w rfl hw (by omega) (by omega)
  ·exact hV G P w (by omega) hw (by omega) (by omega)
 unfold RLk
 rw [parL_succ, keyP_last]
 rcases rMB_round (P := P) (N := N) (out := out) hS hs hF hN0 (by omega) (by omega) hA hR with ⟨v, hb1, hf⟩ | ⟨key, s1, f, s2, k1, k2, k3, h⟩
 ·refine ⟨_, lop_o hb1, .inr ⟨?_, v, rfl⟩⟩
  rcases hf with hf | ⟨key, s1, hk, hf | ⟨f, s2, hf, hno⟩⟩
  ·rw [hf]
  ·rw [hk]; simp only [hf]
  ·rw [hk]; simp only [hf]
   cases s2 with
   | nil => rfl
   | cons c s3 =>
    obtain ⟨a, b⟩ := hno c s3 rfl
    simp only [a, b, cond_false]
 ·obtain ⟨l1, ho⟩ := (par_len false P).1 _ _ _ k2
  have l2 := (par_flat false P).1 _ _ _ k2
  have l3 := keyP_flat k1
  rw [k1]
  simp only [k2]
  rcases h with ⟨s3, e, hb1⟩ | ⟨s3, e, hb1⟩
  ·subst e
   obtain ⟨L, rfl⟩ : ∃ K, L = K + 1 := ⟨L - 1, by omega⟩
   obtain ⟨pp, c, e, hc⟩ := (par_last false P).1 _ _ _ k2
   obtain ⟨p1, e1⟩ := keyP_app k1
   have hcs : Suf (c :: closeC m :: s3) S := by
    obtain ⟨q, e2⟩ := hs
    exact ⟨q ++ p1 ++ pp, by rw [e2, e1, e]; simp⟩
   have hg := rMB_close (F := F) (G := G) (out := out ++ (keyC key ++ f.flat)) (N := N + 1) hS k3 (by omega) (.inr ⟨c, hc, hcs⟩)
   refine ⟨_, lop_n hb1 (lop_o hg), .inl ⟨f.put key .nil, s3, ?_, k3, ?_⟩⟩
   ·simp only [decide_true, cond_true]
   ·rw [put_flat ho, put_cnt ho]
    simp only [Fo.flat, Fo.cnt, List.append_nil]
    congr 4
  ·subst e
   have h44 : decide ((44 : UInt8) = closeC m) = false := by cases m <;> rfl
   simp only [List.length_cons] at l1 l2
   obtain ⟨o, ho1, ho2⟩ := (ih s3.length (by omega)).2 m F G P L s3 key (out ++ (keyC key ++ f.flat)) (N + 1) rfl k3.tail hF (by omega) (by omega) (by omega) (by rw [List.length_append, List.length_append]; omega) (by omega) (by omega) (.inr ⟨by omega, k3⟩)
   refine ⟨o, lop_n hb1 ho1, ?_⟩
   simp only [h44, cond_false, decide_true, cond_true]
   rcases ho2 with ⟨g, w, q1, q2, q3⟩ | ⟨q1, v, q2⟩
   ·rw [q1]
    refine .inl ⟨f.put key g, w, rfl, q2, ?_⟩
    rw [q3, put_flat ho, put_cnt ho]
    simp only [List.append_assoc]
    congr 4
    omega
   ·rw [q1]; exact .inr ⟨rfl, v, q2⟩
theorem rRead_eq {S : Str} (hS : S.length ≤ 100000) {F P : Nat} (hF : 3 * S.length + 6 ≤ F) (hP : 2 * S.length + 2 ≤ P) : ROk F P S S :=
 (r_all hS S.length).1 F P S rfl ⟨[], rfl⟩ (by omega) hP
end Go.Proofs.YtpmiamphppcfeaaGreatDoor

/-
 The two ways to read: what is read strictly is what is well-formed. Plain laws.
-/
namespace Go.Proofs.YtpmiamphppcfeaaGreatDoor
open Go
set_option linter.unusedVariables false
set_option linter.unusedSimpArgs false
theorem strP_rel : ∀ (n : Nat) (s : Str), s.length = n → strP true s = match strP false s with
  | none => none
  | some (t, u) => bif t.all okc then some (t, u) else none := by
 intro n
 induction n using Nat.strongRecOn with
 | ind n ih =>
  intro s hn
  cases s with
  | nil => rfl
  | cons c r =>
   simp only [List.length_cons] at hn
   rw [strP_cons, strP_cons]
   cases h1 : decide (c = 34) with
   | true => rfl
   | false =>
    simp only [cond_false, Bool.true_and, Bool.false_and]
    cases h3 : decide (c = 92) with
    | true =>
     have hc : okc c = true := by simp only [decide_eq_true_eq] at h3; subst h3; rfl
     rw [hc]
     cases r with
     | nil => rfl
     | cons d r' =>
      simp only [Bool.not_true, cond_false, cond_true]
      simp only [List.length_cons] at hn
      cases h4 : (decide (d = 34) || decide (d = 92)) with
      | false => rfl
      | true =>
       have hd : okc d = true := by
        simp only [Bool.or_eq_true, decide_eq_true_eq] at h4
        rcases h4 with e | e <;> subst e <;> rfl
       simp only [cond_true]
       rw [ih r'.length (by omega) r' rfl]
       cases strP false r' with
       | none => rfl
       | some q =>
        obtain ⟨t, u⟩ := q
        simp only [List.all_cons, hd, Bool.true_and]
        cases t.all okc <;> rfl
    | false =>
     simp only [cond_false]
     rw [ih r.length (by omega) r rfl]
     cases hc : okc c with
     | false =>
      simp only [Bool.not_false, cond_true]
      cases strP false r with
      | none => rfl
      | some q => obtain ⟨t, u⟩ := q; simp [hc]
     | true =>
      simp only [Bool.not_true, cond_false]
      cases strP false r with
      | none => rfl
      | some q =>
       obtain ⟨t, u⟩ := q
       simp only [List.all_cons, hc, Bool.true_and]
       cases t.all okc <;> rfl
theorem keyP_rel (m : Bool) (last : Option Str) (s : Str) : keyP true m last s = match keyP false m none s with
  | none => none
  | some (k, u) => bif keyOk m last k then some (k, u) else none := by
 cases m with
 | false => rfl
 | true =>
  cases s with
  | nil => rfl
  | cons c r =>
   unfold keyP
   simp only [cond_true, Bool.true_and, Bool.false_and, cond_false]
   cases hc : decide (c = 34) with
   | false => rfl
   | true =>
    simp only [cond_true]
    rw [strP_rel _ r rfl]
    cases strP false r with
    | none => rfl
    | some q =>
     obtain ⟨t, u⟩ := q
     simp only
     cases ht : t.all okc with
     | false =>
      have hk : keyOk true last (some t) = false := by simp [keyOk, ht]
      simp only [cond_false]
      cases u with
      | nil => rfl
      | cons d u' =>
       simp only
       cases decide (d = 58) with
       | false => rfl
       | true => simp only [cond_true, hk]; rfl
     | true =>
      simp only [cond_true]
      cases u with
      | nil => cases keyOk true last (some t) <;> rfl
      | cons d u' =>
       simp only
       cases decide (d = 58) with
       | false => cases keyOk true last (some t) <;> rfl
       | true => cases hk : keyOk true last (some t) <;> simp [hk]
def plr (c : TApiCell) : Bool := bif decide (c.fKind = 4) then decide (c.fInt = 0) && decide (c.fN = 0) else pl c
def Fo.rw : Bool → Fo → Bool
 | _, .nil => true
 | m, .cell k c r => (k.isSome == m) && plr c && !decide (0 < c.fN) && r.rw m
 | m, .node k c kids r => (k.isSome == m) && plr c && decide (0 < c.fN) && decide (c.fN = kids.cnt) && kids.rw (decide (c.fKind = 6)) && r.rw m
theorem prsK_rw {m : Bool} {last k : Option Str} {r : List TApiCell} (h : (k.isSome == m) = true) : prsK m last (keyC k ++ r) = bif keyOk m last k then some (k, r) else none := by
 cases hk : keyOk m last k with
 | true => exact prsK_of hk
 | false =>
  cases k with
  | none =>
   have hm : m = false := by cases m <;> simp_all
   subst hm
   cases hk
  | some s =>
   have hm : m = true := by cases m <;> simp_all
   subst hm
   show (bif pl ⟨4, 0, s, 0⟩ && decide ((4 : Int) = 4) && keyOk true last (some s) then _ else none) = _
   rw [hk, Bool.and_false]; rfl
theorem prsF_rw : ∀ (f : Fo) (m : Bool) (last : Option Str) (ys : List TApiCell), f.rw m = true → prsF m last f.cnt (f.flat ++ ys) = bif f.wf m last then some (f, ys) else none
 | .nil, _, _, _, _ => rfl
 | .cell k c r, m, last, ys, hw => by
  simp only [Fo.rw, Bool.and_eq_true, Bool.not_eq_true'] at hw
  obtain ⟨⟨⟨w1, w2⟩, w3⟩, w4⟩ := hw
  simp only [Fo.cnt, Fo.flat, List.append_assoc, List.cons_append]
  rw [prsF_cons, prsK_rw w1]
  simp only [Fo.wf, w3, Bool.not_false, Bool.and_true]
  cases keyOk m last k with
  | false => rfl
  | true =>
   simp only [cond_true, prs1_cons, w3, cond_false, Bool.true_and]
   cases hp : pl c with
   | false => rfl
   | true =>
    simp only [Bool.not_true, cond_false, prsF_rw r m k ys w4, Bool.true_and]
    cases r.wf m k <;> rfl
 | .node k c kids r, m, last, ys, hw => by
  simp only [Fo.rw, Bool.and_eq_true, decide_eq_true_eq] at hw
  obtain ⟨⟨⟨⟨⟨w1, w2⟩, w3⟩, w5⟩, w6⟩, w4⟩ := hw
  simp only [Fo.cnt, Fo.flat, List.append_assoc, List.cons_append]
  rw [prsF_cons, prsK_rw w1]
  have e : c.fN.toNat = kids.cnt := by omega
  have w5' : decide (c.fN = kids.cnt) = true := decide_eq_true w5
  simp only [Fo.wf, decide_eq_true w3, w5', Bool.and_true]
  cases keyOk m last k with
  | false => rfl
  | true =>
   simp only [cond_true, prs1_cons, decide_eq_true w3, Bool.true_and]
   cases hp : pl c with
   | false => rfl
   | true =>
    simp only [Bool.not_true, cond_false, e, prsF_rw kids _ none (r.flat ++ ys) w6, Bool.true_and]
    cases kids.wf (decide (c.fKind = 6)) none with
    | false => rfl
    | true =>
     simp only [cond_true, prsF_rw r m k ys w4, Bool.true_and]
     cases r.wf m k <;> rfl
theorem put_wf {f : Fo} (h : f.one = true) (m : Bool) (last key : Option Str) (r : Fo) : (f.put key r).wf m last = (keyOk m last key && f.wf false none && r.wf m key) := by
 cases f with
 | nil => cases h
 | cell k c r' =>
  cases k with
  | some _ => cases h
  | none => cases r' with
   | nil => simp [Fo.put, Fo.wf, keyOk, Bool.and_assoc]
   | cell _ _ _ => cases h
   | node _ _ _ _ => cases h
 | node k c kids r' =>
  cases k with
  | some _ => cases h
  | none => cases r' with
   | nil => simp [Fo.put, Fo.wf, keyOk, Bool.and_assoc]
   | cell _ _ _ => cases h
   | node _ _ _ _ => cases h
theorem put_rw {f : Fo} (h : f.one = true) (m : Bool) (key : Option Str) (r : Fo) : (f.put key r).rw m = ((key.isSome == m) && f.rw false && r.rw m) := by
 cases f with
 | nil => cases h
 | cell k c r' =>
  cases k with
  | some _ => cases h
  | none => cases r' with
   | nil => simp [Fo.put, Fo.rw, Bool.and_assoc]
   | cell _ _ _ => cases h
   | node _ _ _ _ => cases h
 | node k c kids r' =>
  cases k with
  | some _ => cases h
  | none => cases r' with
   | nil => simp [Fo.put, Fo.rw, Bool.and_assoc]
   | cell _ _ _ => cases h
   | node _ _ _ _ => cases h
theorem nd_wf (m : Bool) (g : Fo) : (nd m g).wf false none = g.wf m none ∧ (nd m g).rw false = g.rw m := by
 unfold nd
 cases hd : decide (g.cnt = 0) with
 | true =>
  simp only [decide_eq_true_eq] at hd
  rw [cnt_nil hd]
  cases m <;> exact ⟨rfl, rfl⟩
 | false =>
  simp only [decide_eq_false_iff_not] at hd
  have h1 : decide ((0 : Int) < (g.cnt : Int)) = true := decide_eq_true (by omega)
  have h2 : decide ((0 : Int) ≤ (g.cnt : Int)) = true := decide_eq_true (by omega)
  cases m <;> simp [Fo.wf, Fo.rw, keyOk, pl, plr] <;> omega
theorem keyP_some {m : Bool} {last k : Option Str} {s u : Str} {b : Bool} (h : keyP b m last s = some (k, u)) : (k.isSome == m) = true := by
 unfold keyP at h
 cases m with
 | false => cases h; rfl
 | true =>
  simp only [cond_true] at h
  cases s with
  | nil => cases h
  | cons c r =>
   simp only at h
   cases h1 : decide (c = 34) with
   | false => rw [h1] at h; cases h
   | true =>
    rw [h1] at h
    simp only [cond_true] at h
    cases h2 : strP b r with
    | none => rw [h2] at h; cases h
    | some q =>
     obtain ⟨t, w⟩ := q
     rw [h2] at h
     simp only at h
     cases h3 : (b && !keyOk true last (some t)) with
     | true => rw [h3] at h; cases h
     | false =>
      rw [h3] at h
      simp only [cond_false] at h
      cases w with
      | nil => cases h
      | cons d w' =>
       simp only at h
       cases h4 : decide (d = 58) with
       | false => rw [h4] at h; cases h
       | true => rw [h4] at h; cases h; rfl
theorem par_rel : ∀ F : Nat, (∀ s, par true F s = (match par false F s with
   | none => none
   | some (f, u) => bif f.wf false none then some (f, u) else none) ∧ ∀ f u, par false F s = some (f, u) → f.rw false = true) ∧
  (∀ m last last' s, parL true F m last s = (match parL false F m last' s with
   | none => none
   | some (g, u) => bif g.wf m last then some (g, u) else none) ∧ ∀ g u, parL false F m last' s = some (g, u) → g.rw m = true)
 | 0 => ⟨fun s => ⟨by rw [par.eq_def, par.eq_def], (fun f u h => by rw [par.eq_def] at h; cases h)⟩, fun m last last' s => ⟨by rw [parL.eq_def, parL.eq_def], (fun g u h => by rw [parL.eq_def] at h; cases h)⟩⟩
 | F + 1 => by
  obtain ⟨ih1, ih2⟩ := par_rel F
  have lfw : ∀ k i t, pl ⟨k, i, t, 0⟩ = true → (lf k i t).wf false none = true := fun k i t h => by simp [lf, Fo.wf, keyOk, h]
  have lfr : ∀ k i t, plr ⟨k, i, t, 0⟩ = true → (lf k i t).rw false = true := fun k i t h => by simp [lf, Fo.rw, h]
  constructor
  ·intro s
   rw [par_succ, par_succ]
   cases h1 : pre [110, 117, 108, 108] s with
   | some r => exact ⟨rfl, fun f u h => by cases h; rfl⟩
   | none =>
   simp only
   cases h2 : pre [116, 114, 117, 101] s with
   | some r => exact ⟨rfl, fun f u h => by cases h; rfl⟩
   | none =>
   simp only
   cases h3 : pre [102, 97, 108, 115, 101] s with
   | some r => exact ⟨rfl, fun f u h => by cases h; rfl⟩
   | none =>
   simp only
   cases s with
   | nil => exact ⟨rfl, fun f u h => by cases h⟩
   | cons c r =>
   simp only
   cases h4 : decide (c = 34) with
   | true =>
    simp only [cond_true]
    rw [strP_rel _ r rfl]
    cases hq : strP false r with
    | none => exact ⟨rfl, fun f u h => by cases h⟩
    | some q =>
     obtain ⟨t, u⟩ := q
     simp only
     have e : (lf 4 0 t).wf false none = t.all okc := by simp [lf, Fo.wf, keyOk, pl]
     rw [e]
     refine ⟨by cases t.all okc <;> rfl, fun f u' h => by cases h; exact lfr 4 0 t rfl⟩
   | false =>
   simp only [cond_false]
   cases h5 : (decide (c = 91) || decide (c = 123)) with
   | false =>
    simp only [cond_false]
    cases hi : intP (c :: r) with
    | none => exact ⟨rfl, fun f u h => by cases h⟩
    | some q =>
     obtain ⟨f, u⟩ := q
     have hf : f.wf false none = true ∧ f.rw false = true := by
      unfold intP at hi
      simp only at hi
      cases hc : canon (decide ((c :: r).head? = some 45)) (digP (bif decide ((c :: r).head? = some 45) then (c :: r).tail else c :: r)).1 with
      | false => rw [hc] at hi; cases hi
      | true => rw [hc] at hi; cases hi; exact ⟨rfl, rfl⟩
     refine ⟨by simp only [hf.1]; rfl, fun f' u' h => by cases h; exact hf.2⟩
   | true =>
   simp only [cond_true]
   cases r with
   | nil => exact ⟨rfl, fun f u h => by cases h⟩
   | cons d r' =>
   simp only
   cases h6 : decide (d = closeC (decide (c = 123))) with
   | true =>
    simp only [cond_true, (nd_wf _ _).1, Fo.wf]
    exact ⟨trivial, fun f u h => by cases h; rw [(nd_wf _ _).2]; rfl⟩
   | false =>
   simp only [cond_false]
   obtain ⟨e1, e2⟩ := ih2 (decide (c = 123)) none none (d :: r')
   rw [e1]
   cases hq : parL false F (decide (c = 123)) none (d :: r') with
   | none => exact ⟨rfl, fun f u h => by cases h⟩
   | some q =>
    obtain ⟨g, u⟩ := q
    simp only [(nd_wf _ _).1]
    refine ⟨by cases g.wf (decide (c = 123)) none <;> rfl, fun f u' h => by cases h; rw [(nd_wf _ _).2]; exact e2 g u hq⟩
  ·intro m last last' s
   rw [parL_succ, parL_succ, keyP_rel m last s]
   have hkl : keyP false m last' s = keyP false m none s := by
    cases m with
    | false => rfl
    | true => unfold keyP; simp only [Bool.false_and]
   rw [hkl]
   cases hk : keyP false m none s with
   | none => exact ⟨rfl, fun f u h => by cases h⟩
   | some q =>
   obtain ⟨key, s1⟩ := q
   have hks := keyP_some hk
   simp only
   obtain ⟨e1, e2⟩ := ih1 s1
   cases hf : par false F s1 with
   | none =>
    rw [hf] at e1
    refine ⟨?_, fun f u h => by cases h⟩
    cases keyOk m last key with
    | false => rfl
    | true => simp only [cond_true, e1]
   | some q =>
   obtain ⟨f, s2⟩ := q
   have ho := ((par_len false F).1 _ _ _ hf).2
   have hfr := e2 f s2 hf
   rw [hf] at e1
   simp only at e1
   simp only
   cases s2 with
   | nil =>
    refine ⟨?_, fun f u h => by cases h⟩
    cases keyOk m last key with
    | false => rfl
    | true => simp only [cond_true, e1]; cases f.wf false none <;> rfl
   | cons c s3 =>
   simp only
   cases h3 : decide (c = closeC m) with
   | true =>
    simp only [cond_true, put_wf ho, Fo.wf, Bool.and_true]
    refine ⟨?_, fun g u h => by cases h; rw [put_rw ho, hks, hfr]; rfl⟩
    cases keyOk m last key with
    | false => rfl
    | true => simp only [cond_true, e1, Bool.true_and]; cases f.wf false none <;> simp [h3]
   | false =>
   simp only [cond_false]
   cases h4 : decide (c = 44) with
   | false =>
    refine ⟨?_, fun g u h => by cases h⟩
    cases keyOk m last key with
    | false => rfl
    | true => simp only [cond_true, e1]; cases f.wf false none <;> simp [h3, h4]
   | true =>
   simp only [cond_true]
   obtain ⟨e3, e4⟩ := ih2 m key key s3
   cases hq : parL false F m key s3 with
   | none =>
    rw [hq] at e3
    refine ⟨?_, fun g u h => by cases h⟩
    cases keyOk m last key with
    | false => rfl
    | true => simp only [cond_true, e1]; cases f.wf false none <;> simp [h3, h4, e3]
   | some q =>
    obtain ⟨g, u⟩ := q
    rw [hq] at e3
    simp only at e3
    simp only [put_wf ho]
    refine ⟨?_, fun g' u' h => by cases h; rw [put_rw ho, hks, hfr, e4 g u hq]; rfl⟩
    cases keyOk m last key with
    | false => rfl
    | true =>
     simp only [cond_true, e1, Bool.true_and]
     cases f.wf false none with
     | false => rfl
     | true =>
      simp only [cond_true, h3, h4, cond_false, e3, Bool.true_and]
      cases g.wf m key <;> rfl
end Go.Proofs.YtpmiamphppcfeaaGreatDoor

/-
 Decode of any string: value's is the reference's. Plain laws.
-/
namespace Go.Proofs.YtpmiamphppcfeaaGreatDoor
open Go
set_option linter.unusedVariables false
set_option linter.unusedSimpArgs false
def cellB (K : Nat) (c : TApiCell) : Prop := c.fStr.length ≤ K ∧ inK .i64 c.fInt = true ∧ c.fN ≤ (K : Int)
theorem cellB.mono {K K' : Nat} {c : TApiCell} (h : cellB K c) (hk : K ≤ K') : cellB K' c := ⟨by have := h.1; omega, h.2.1, by have := h.2.2; omega⟩
theorem strP_tlen (b : Bool) : ∀ (n : Nat) (s t u : Str), s.length = n → strP b s = some (t, u) → t.length ≤ s.length := by
 intro n
 induction n using Nat.strongRecOn with
 | ind n ih =>
  intro s t u hn h
  cases s with
  | nil => cases h
  | cons c r =>
   simp only [List.length_cons] at hn ⊢
   rw [strP_cons] at h
   cases h1 : decide (c = 34) with
   | true => rw [h1] at h; cases h; simp
   | false =>
    rw [h1] at h
    simp only [cond_false] at h
    cases h2 : (b && !okc c) with
    | true => rw [h2] at h; cases h
    | false =>
     rw [h2] at h
     simp only [cond_false] at h
     cases h3 : decide (c = 92) with
     | true =>
      rw [h3] at h
      cases r with
      | nil => cases h
      | cons d r' =>
       simp only [cond_true] at h
       cases h4 : (decide (d = 34) || decide (d = 92)) with
       | false => rw [h4] at h; cases h
       | true =>
        rw [h4] at h
        simp only [cond_true] at h
        cases h5 : strP b r' with
        | none => rw [h5] at h; cases h
        | some q =>
         obtain ⟨t', u'⟩ := q
         rw [h5] at h; cases h
         simp only [List.length_cons] at hn ⊢
         have := ih r'.length (by omega) r' t' u rfl h5
         omega
     | false =>
      rw [h3] at h
      simp only [cond_false] at h
      cases h5 : strP b r with
      | none => rw [h5] at h; cases h
      | some q =>
       obtain ⟨t', u'⟩ := q
       rw [h5] at h; cases h
       have := ih r.length (by omega) r t' u rfl h5
       simp only [List.length_cons]; omega
theorem keyP_tlen {b m : Bool} {last : Option Str} {s u : Str} {t : Str} (h : keyP b m last s = some (some t, u)) : t.length ≤ s.length := by
 unfold keyP at h
 cases m with
 | false => cases h
 | true =>
  simp only [cond_true] at h
  cases s with
  | nil => cases h
  | cons c r =>
   simp only at h
   cases h1 : decide (c = 34) with
   | false => rw [h1] at h; cases h
   | true =>
    rw [h1] at h
    simp only [cond_true] at h
    cases h2 : strP b r with
    | none => rw [h2] at h; cases h
    | some q =>
     obtain ⟨k, w⟩ := q
     have := strP_tlen b _ r k w rfl h2
     rw [h2] at h
     simp only at h
     cases h3 : (b && !keyOk true last (some k)) with
     | true => rw [h3] at h; cases h
     | false =>
      rw [h3] at h
      simp only [cond_false] at h
      cases w with
      | nil => cases h
      | cons d w' =>
       simp only at h
       cases h4 : decide (d = 58) with
       | false => rw [h4] at h; cases h
       | true => rw [h4] at h; cases h; simp only [List.length_cons]; omega
theorem intV_i64 (neg : Bool) {d : Str} (hd : d.all isDig = true) : inK .i64 (intV neg d) = true := by
 unfold intV
 cases h18 : decide (18 < d.length) with
 | true =>
  cases neg with
  | true => exact (by decide : inK .i64 (-2000000000000) = true)
  | false => exact (by decide : inK .i64 2000000000000 = true)
 | false =>
  simp only [decide_eq_false_iff_not] at h18
  have hb := numD_bd hd (by omega)
  cases neg with
  | true => exact inK_i64' (by simp only [cond_false, cond_true]; omega) (by simp only [cond_false, cond_true]; omega)
  | false => exact inK_i64' (by simp only [cond_false]; omega) (by simp only [cond_false]; omega)
theorem nd_mem {m : Bool} {g : Fo} {K : Nat} (hg : ∀ c ∈ g.flat, cellB K c) (hl : g.flat.length ≤ K) : ∀ c ∈ (nd m g).flat, cellB K c := fun c hc => by
 rw [nd_flat _ _ cnt_nil] at hc
 have hcf := cnt_le_flat g
 rcases List.mem_cons.1 hc with rfl | hc
 ·exact ⟨Nat.zero_le _, (by decide : inK .i64 0 = true), by show (g.cnt : Int) ≤ K; omega⟩
 ·exact hg c hc
theorem put_mem {f r : Fo} {K : Nat} {key : Option Str} (ho : f.one = true) (hf : ∀ c ∈ f.flat, cellB K c) (hr : ∀ c ∈ r.flat, cellB K c) (hk : ∀ t, key = some t → t.length ≤ K) : ∀ c ∈ (f.put key r).flat, cellB K c := fun c hc => by
 rw [put_flat ho] at hc
 rcases List.mem_append.1 hc with h | h
 ·cases key with
  | none => cases h
  | some t =>
   have : c = ⟨4, 0, t, 0⟩ := by simpa [keyC] using h
   subst this
   exact ⟨hk t rfl, (by decide : inK .i64 0 = true), by show (0 : Int) ≤ K; omega⟩
 ·rcases List.mem_append.1 h with h | h
  ·exact hf c h
  ·exact hr c h
theorem par_cells (b : Bool) (K : Nat) : ∀ F : Nat, (∀ s f u, s.length ≤ K → par b F s = some (f, u) → ∀ c ∈ f.flat, cellB K c) ∧ (∀ m last s g u, s.length ≤ K → parL b F m last s = some (g, u) → ∀ c ∈ g.flat, cellB K c)
 | 0 => ⟨(fun s f u _ h => by rw [par.eq_def] at h; cases h), (fun m last s g u _ h => by rw [parL.eq_def] at h; cases h)⟩
 | F + 1 => by
  obtain ⟨ih1, ih2⟩ := par_cells b K F
  have lfc : ∀ k i t, t.length ≤ K → inK .i64 i = true → ∀ c ∈ (lf k i t).flat, cellB K c := fun k i t ht hi c hc => by
   have : c = ⟨k, i, t, 0⟩ := by simpa [lf, Fo.flat, keyC] using hc
   subst this
   exact ⟨ht, hi, by show (0 : Int) ≤ K; omega⟩
  constructor
  ·intro s f u hs h
   rw [par_succ] at h
   cases h1 : pre [110, 117, 108, 108] s with
   | some r => rw [h1] at h; cases h; exact lfc _ _ _ (Nat.zero_le _) (by decide)
   | none =>
   rw [h1] at h; simp only at h
   cases h2 : pre [116, 114, 117, 101] s with
   | some r => rw [h2] at h; cases h; exact lfc _ _ _ (Nat.zero_le _) (by decide)
   | none =>
   rw [h2] at h; simp only at h
   cases h3 : pre [102, 97, 108, 115, 101] s with
   | some r => rw [h3] at h; cases h; exact lfc _ _ _ (Nat.zero_le _) (by decide)
   | none =>
   rw [h3] at h; simp only at h
   cases s with
   | nil => cases h
   | cons c r =>
   simp only [List.length_cons] at hs
   simp only at h
   cases h4 : decide (c = 34) with
   | true =>
    rw [h4] at h; simp only [cond_true] at h
    cases h5 : strP b r with
    | none => rw [h5] at h; cases h
    | some q =>
     obtain ⟨t, w⟩ := q
     rw [h5] at h; cases h
     have := strP_tlen b _ r t u rfl h5
     exact lfc _ _ _ (by omega) (by decide)
   | false =>
   rw [h4] at h; simp only [cond_false] at h
   cases h5 : (decide (c = 91) || decide (c = 123)) with
   | false =>
    rw [h5] at h; simp only [cond_false] at h
    unfold intP at h
    simp only at h
    cases hc : canon (decide ((c :: r).head? = some 45)) (digP (bif decide ((c :: r).head? = some 45) then (c :: r).tail else c :: r)).1 with
    | false => rw [hc] at h; cases h
    | true =>
     rw [hc] at h; cases h
     exact lfc 3 _ [] (Nat.zero_le _) (intV_i64 _ (digP_all _))
   | true =>
   rw [h5] at h; simp only [cond_true] at h
   cases r with
   | nil => cases h
   | cons d r' =>
   simp only at h
   cases h6 : decide (d = closeC (decide (c = 123))) with
   | true => rw [h6] at h; cases h; exact nd_mem (fun c hc => by cases hc) (Nat.zero_le _)
   | false =>
   rw [h6] at h; simp only [cond_false] at h
   cases h7 : parL b F (decide (c = 123)) none (d :: r') with
   | none => rw [h7] at h; cases h
   | some q =>
    obtain ⟨g, w⟩ := q
    rw [h7] at h; cases h
    have := (par_flat b F).2 _ _ _ _ _ h7
    exact nd_mem (ih2 _ _ _ _ _ (by omega) h7) (by omega)
  ·intro m last s g u hs h
   rw [parL_succ] at h
   cases h1 : keyP b m last s with
   | none => rw [h1] at h; cases h
   | some q =>
   obtain ⟨key, s1⟩ := q
   have l1 := keyP_len h1
   have hkt : ∀ t, key = some t → t.length ≤ K := fun t e => by subst e; have := keyP_tlen h1; omega
   rw [h1] at h; simp only at h
   cases h2 : par b F s1 with
   | none => rw [h2] at h; cases h
   | some q =>
   obtain ⟨f, s2⟩ := q
   obtain ⟨l2, o2⟩ := (par_len b F).1 _ _ _ h2
   have hf := ih1 _ _ _ (by omega) h2
   rw [h2] at h; simp only at h
   cases s2 with
   | nil => cases h
   | cons c s3 =>
   simp only [List.length_cons] at l2
   simp only at h
   cases h3 : decide (c = closeC m) with
   | true => rw [h3] at h; cases h; exact put_mem o2 hf (fun c hc => by cases hc) hkt
   | false =>
   rw [h3] at h; simp only [cond_false] at h
   cases h4 : decide (c = 44) with
   | false => rw [h4] at h; cases h
   | true =>
   rw [h4] at h; simp only [cond_true] at h
   cases h5 : parL b F m key s3 with
   | none => rw [h5] at h; cases h
   | some q =>
    obtain ⟨g', w⟩ := q
    rw [h5] at h; cases h
    exact put_mem o2 hf (ih2 _ _ _ _ _ (by omega) h5) hkt
theorem fix_id : ∀ l : List TApiCell, l.any outC = false → l.map fixC = l
 | [], _ => rfl
 | c :: l, h => by
  simp only [List.any_cons, Bool.or_eq_false_iff] at h
  simp only [List.map_cons, fix_id l h.2, fixC, h.1, cond_false]
def decV (s : Str) : Option (List TApiCell × Int) :=
 bif decide (4000 < s.length) then some ([], 3) else match par true 10000 s with
  | some (f, []) => some (bif decide (errF f = 0) then (f.flat, 0) else ([], errF f))
  | _ => some ([], 1)
theorem vRValue_start (s : Str) : TValueReader.mk s 0 [] false = mkq s s [] false := by simp [mkq]
theorem errF_out {f : Fo} (h : f.flat.any outC = true) : errF f = 2 := by unfold errF; rw [h]; rfl
theorem vDecode_eq {s : Str} : vDecode 20000 s = decV s := by
 unfold vDecode decV
 have a1 : decide ((4000 : Int) < (s.length : Int)) = decide (4000 < s.length) := by rw [Bool.eq_iff_iff]; simp; omega
 rw [a1]
 cases h4 : decide (4000 < s.length) with
 | true => rfl
 | false =>
  simp only [decide_eq_false_iff_not] at h4
  rw [cnd_ff rfl, vRValue_start]
  simp only [cond_false]
  rcases vRValue_eq (S := s) (by omega) (F := 20000) (P := 10000) (by omega) (by omega) with ⟨f, w, q1, q2, q3⟩ | ⟨q1, q', q2⟩
  ·rw [q3, q1, obn_s rfl, cnd_ff (p := !true) rfl]
   obtain ⟨_, hone⟩ := (par_len true 10000).1 _ _ _ q1
   have hwl := q2.len
   have hcells := (par_cells true 4000 10000).1 _ _ _ (by omega) q1
   have hfl := (par_flat true 10000).1 _ _ _ q1
   unfold vDecode_j1
   have hat : (true, mkq s w ([] ++ f.flat.map fixC) (false || f.flat.any outC)).2.fAt = (s.length : Int) - w.length := rfl
   rw [hat]
   cases w with
   | cons c w' =>
    have hd : decide ((s.length : Int) - (c :: w').length = (s.length : Int)) = false := decide_eq_false (by simp only [List.length_cons]; omega)
    rw [hd]; rfl
   | nil =>
    have hd : decide ((s.length : Int) - ([] : Str).length = (s.length : Int)) = true := decide_eq_true (by simp)
    rw [hd, cnd_ff (p := !true) rfl]
    change _ = some (bif decide (errF f = 0) then (f.flat, 0) else ([], errF f))
    have hgr : (true, mkq s [] ([] ++ f.flat.map fixC) (false || f.flat.any outC)).2.fGreat = f.flat.any outC := rfl
    have hce : (true, mkq s [] ([] ++ f.flat.map fixC) (false || f.flat.any outC)).2.fCells = f.flat.map fixC := rfl
    rw [hgr, hce]
    cases ho : f.flat.any outC with
    | true => rw [errF_out ho]; rfl
    | false =>
     rw [cnd_ff rfl, fix_id _ ho]
     have hA : CkA 4000 f.flat := ⟨by decide, by omega, fun c hc => by obtain ⟨c1, c2, c3⟩ := hcells c hc; exact ⟨c1, c2, by omega⟩⟩
     have hwf : f.wf false none = true := by
      have := ((par_rel 10000).1 s).1
      rw [q1] at this
      cases hp : par false 10000 s with
      | none => rw [hp] at this; cases this
      | some q =>
       obtain ⟨f', u'⟩ := q
       rw [hp] at this
       simp only at this
       cases hw : f'.wf false none with
       | false => rw [hw] at this; cases this
       | true => rw [hw] at this; cases this; exact hw
     have hev : errV f.flat = errF f := by unfold errV; rw [whole_of hone hwf]
     unfold vChecked
     rw [vCheck_eq hA (by decide) (by decide), obn_s rfl, hev]
     cases decide (errF f = 0) <;> rfl
  ·rw [q2, q1]; rfl
theorem rDecode_eq {s : Str} : rDecode 20000 s = decV s := by
 unfold rDecode decV
 have a1 : decide ((4000 : Int) < (s.length : Int)) = decide (4000 < s.length) := by rw [Bool.eq_iff_iff]; simp; omega
 rw [a1]
 cases h4 : decide (4000 < s.length) with
 | true => rfl
 | false =>
  simp only [decide_eq_false_iff_not] at h4
  rw [cnd_ff rfl]
  simp only [cond_false]
  obtain ⟨e1, e2⟩ := (par_rel 10000).1 s
  have hr := rRead_eq (S := s) (by omega) (F := 20000) (P := 10000) (by omega) (by omega)
  unfold ROk at hr
  rw [Int.sub_self] at hr
  rcases hr with ⟨f, w, q1, q2, q3⟩ | ⟨q1, v, q2⟩
  ·rw [q1] at e1
   simp only at e1
   obtain ⟨_, hone⟩ := (par_len false 10000).1 _ _ _ q1
   have hwl := q2.len
   have hcells := (par_cells false 4000 10000).1 _ _ _ (by omega) q1
   have hfl := (par_flat false 10000).1 _ _ _ q1
   rw [q3, obn_s rfl, e1]
   cases w with
   | cons c w' =>
    have hd : decide ((s.length : Int) - (c :: w').length = (s.length : Int)) = false := decide_eq_false (by simp only [List.length_cons]; omega)
    simp only
    rw [hd]
    cases f.wf false none <;> rfl
   | nil =>
    have hd : decide ((s.length : Int) - ([] : Str).length = (s.length : Int)) = true := decide_eq_true (by simp)
    simp only
    rw [hd, cnd_ff (p := !true) rfl]
    have hA : CkA 4000 f.flat := ⟨by decide, by omega, fun c hc => by obtain ⟨c1, c2, c3⟩ := hcells c hc; exact ⟨c1, c2, by omega⟩⟩
    unfold rChecked
    rw [rCheck_eq hA (by decide) (by decide), obn_s rfl]
    cases hwf : f.wf false none with
    | true =>
     have hev : errV f.flat = errF f := by unfold errV; rw [whole_of hone hwf]
     rw [hev]
     simp only [cond_true]
     cases decide (errF f = 0) <;> rfl
    | false =>
     have hwh : whole f.flat = none := by
      have h1 := prsF_rw f false none [] (e2 f [] q1)
      rw [hwf, one_cnt hone, List.append_nil] at h1
      have h2 : prs1 f.flat = none := h1
      unfold whole
      rw [h2]
     have hev : errV f.flat = 1 := by unfold errV; rw [hwh]
     rw [hev]; rfl
  ·rw [q1] at e1
   simp only at e1
   rw [q2, obn_s rfl, e1]
   simp only
   rw [cnd_tt (p := !decide ((-1 : Int) = (s.length : Int))) (by rw [decide_eq_false (by omega)]; rfl)]
end Go.Proofs.YtpmiamphppcfeaaGreatDoor

/-
 Numbers and strings: their texts, read again, and what was read, written again. Plain laws.
-/
namespace Go.Proofs.YtpmiamphppcfeaaGreatDoor
open Go
set_option linter.unusedVariables false
set_option linter.unusedSimpArgs false
theorem natF_snoc (d : Str) (c : UInt8) (a : Nat) : natF a (d ++ [c]) = 10 * natF a d + (c.toNat - 48) := by simp [natF]
theorem dec_lt {u : Nat} (h : u < 10) : Lib.decDigits u = [UInt8.ofNat (48 + u)] := by rw [Lib.decDigits, dif_pos h]
theorem dec_ge {u : Nat} (h : ¬ u < 10) : Lib.decDigits u = Lib.decDigits (u / 10) ++ [UInt8.ofNat (48 + u % 10)] := by
 rw [Lib.decDigits, dif_neg h]
theorem dec_natF : ∀ (n : Nat) (d : Str), d.length = n → d.all isDig = true → d ≠ [] → (d.head? = some 48 → d.length = 1) → Lib.decDigits (natF 0 d) = d := by
 intro n
 induction n with
 | zero => intro d hn _ hne; exact absurd (List.eq_nil_of_length_eq_zero hn) hne
 | succ n ih =>
  intro d hn ha hne hh
  obtain ⟨d', c, rfl⟩ : ∃ d' c, d = d' ++ [c] := ⟨d.dropLast, d.getLast hne, (List.dropLast_concat_getLast hne).symm⟩
  rw [List.all_append] at ha
  simp only [List.all_cons, List.all_nil, Bool.and_true, Bool.and_eq_true] at ha
  have hc : 48 ≤ c.toNat ∧ c.toNat ≤ 57 := by have := ha.2; simp [isDig] at this; omega
  have ec : UInt8.ofNat (48 + (c.toNat - 48)) = c := by rw [show 48 + (c.toNat - 48) = c.toNat from by omega]; simp
  rw [natF_snoc]
  cases hd : d' with
  | nil =>
   show Lib.decDigits (10 * 0 + (c.toNat - 48)) = [c]
   rw [dec_lt (by omega), show 48 + (10 * 0 + (c.toNat - 48)) = 48 + (c.toNat - 48) from by omega, ec]
  | cons x r =>
   rw [← hd]
   have hne' : d' ≠ [] := by rw [hd]; simp
   have h1 : d'.head? ≠ some 48 := fun e => by
    have := hh (by rw [hd] at e ⊢; simpa using e)
    rw [hd] at this; simp at this
   have ih' := ih d' (by simp at hn; omega) ha.1 hne' (fun e => absurd e h1)
   have hpos : 1 ≤ natF 0 d' := by
    rw [hd]
    show 1 ≤ natF (10 * 0 + (x.toNat - 48)) r
    have hx : 48 ≤ x.toNat ∧ x.toNat ≤ 57 := by have := ha.1; rw [hd] at this; simp [isDig] at this; omega
    have hx2 : x.toNat ≠ 48 := fun e => h1 (by rw [hd]; simp; rw [← UInt8.toNat_inj]; exact e)
    exact Nat.le_trans (by omega) (natF_mono r _)
   rw [dec_ge (by omega), show (10 * natF 0 d' + (c.toNat - 48)) / 10 = natF 0 d' from by omega, show (10 * natF 0 d' + (c.toNat - 48)) % 10 = c.toNat - 48 from by omega, ih', ec]
theorem intP_back {s u : Str} {f : Fo} (h : intP s = some (f, u)) : ∃ n, f = .cell none ⟨3, n, [], 0⟩ .nil ∧ (outC ⟨3, n, [], 0⟩ = false → s = Lib.itoa n ++ u) := by
 unfold intP at h
 simp only at h
 have key : ∀ (neg : Bool) (r : Str), s = (bif neg then 45 :: r else r) → canon neg (digP r).1 = true → outC ⟨3, intV neg (digP r).1, [], 0⟩ = false → s = Lib.itoa (intV neg (digP r).1) ++ (digP r).2 := fun neg r es hcan hout => by
  have hd := digP_all r
  have he := digP_eq r
  generalize (digP r).1 = d at *
  generalize (digP r).2 = w at *
  unfold canon at hcan
  simp only [Bool.and_eq_true, Bool.not_eq_true', decide_eq_false_iff_not] at hcan
  obtain ⟨hne, hz⟩ := hcan
  have hl : d.length ≤ 18 := by
   by_cases h18 : d.length ≤ 18
   ·exact h18
   ·exfalso
    unfold intV at hout
    rw [decide_eq_true (by omega)] at hout
    cases neg <;> simp [outC] at hout
  have hn : intV neg d = bif neg then -(natF 0 d : Int) else (natF 0 d : Int) := by
   have := numD_nat d 0 hd
   unfold intV
   rw [decide_eq_false (by omega)]
   show (bif neg then -(numD d) else numD d) = _
   rw [show numD d = (natF 0 d : Int) from this]
  have hback := dec_natF d.length d rfl hd hne (fun e => by
   cases h1 : decide (1 < d.length) with
   | true => rw [decide_eq_true e, h1] at hz; simp at hz
   | false =>
    simp only [decide_eq_false_iff_not] at h1
    cases d with
    | nil => exact absurd rfl hne
    | cons x y => simp only [List.length_cons] at h1 ⊢; omega)
  rw [hn]
  cases neg with
  | true =>
   have hpos : 1 ≤ natF 0 d := by
    cases d with
    | nil => exact absurd rfl hne
    | cons x y =>
     have hx : 48 ≤ x.toNat ∧ x.toNat ≤ 57 := by simp [isDig] at hd; omega
     have hx2 : x.toNat ≠ 48 := fun e => by
      have : x = 48 := by rw [← UInt8.toNat_inj]; exact e
      rw [this] at hz; simp at hz
     show 1 ≤ natF (10 * 0 + (x.toNat - 48)) y
     exact Nat.le_trans (by omega) (natF_mono y _)
   have := Lib.itoa_neg (natF 0 d) hpos
   simp only [cond_true] at es ⊢
   rw [this, hback, es, List.cons_append, ← he]
  | false =>
   have := Lib.itoa_nonneg (natF 0 d)
   simp only [cond_false] at es ⊢
   rw [this, hback, es, ← he]
 cases hneg : decide (s.head? = some 45) with
 | true =>
  rw [hneg] at h
  simp only [cond_true] at h
  cases hcan : canon true (digP s.tail).1 with
  | false => rw [hcan] at h; cases h
  | true =>
   rw [hcan] at h
   simp only [cond_true, Option.some.injEq, Prod.mk.injEq] at h
   obtain ⟨rfl, rfl⟩ := h
   refine ⟨_, rfl, fun hout => key true s.tail ?_ hcan hout⟩
   cases s with
   | nil => simp at hneg
   | cons c r =>
    simp at hneg
    subst hneg; rfl
 | false =>
  rw [hneg] at h
  simp only [cond_false] at h
  cases hcan : canon false (digP s).1 with
  | false => rw [hcan] at h; cases h
  | true =>
   rw [hcan] at h
   simp only [cond_true, Option.some.injEq, Prod.mk.injEq] at h
   obtain ⟨rfl, rfl⟩ := h
   exact ⟨_, rfl, fun hout => key false s rfl hcan hout⟩
theorem strP_back : ∀ (n : Nat) (s t u : Str), s.length = n → strP true s = some (t, u) → s = escS t ++ 34 :: u := by
 intro n
 induction n using Nat.strongRecOn with
 | ind n ih =>
  intro s t u hn h
  cases s with
  | nil => cases h
  | cons c r =>
   simp only [List.length_cons] at hn
   rw [strP_cons] at h
   cases h1 : decide (c = 34) with
   | true =>
    rw [h1] at h; cases h
    rw [of_decide_eq_true h1]; rfl
   | false =>
    rw [h1] at h
    simp only [cond_false] at h
    cases h2 : (true && !okc c) with
    | true => rw [h2] at h; cases h
    | false =>
     rw [h2] at h
     simp only [cond_false] at h
     cases h3 : decide (c = 92) with
     | true =>
      rw [h3] at h
      cases r with
      | nil => cases h
      | cons d r' =>
       simp only [cond_true] at h
       cases h4 : (decide (d = 34) || decide (d = 92)) with
       | false => rw [h4] at h; cases h
       | true =>
        rw [h4] at h
        simp only [cond_true] at h
        cases h5 : strP true r' with
        | none => rw [h5] at h; cases h
        | some q =>
         obtain ⟨t', u'⟩ := q
         rw [h5] at h; cases h
         simp only [List.length_cons] at hn
         have := ih r'.length (by omega) r' t' u rfl h5
         rw [of_decide_eq_true h3, this]
         simp [escS, h4]
     | false =>
      rw [h3] at h
      simp only [cond_false] at h
      cases h5 : strP true r with
      | none => rw [h5] at h; cases h
      | some q =>
       obtain ⟨t', u'⟩ := q
       rw [h5] at h; cases h
       have := ih r.length (by omega) r t' u rfl h5
       rw [this]
       simp only [decide_eq_false_iff_not] at h1 h3
       simp [escS, h1, h3]
end Go.Proofs.YtpmiamphppcfeaaGreatDoor

/-
 A number that was read is written as it stood. Plain laws.
-/
namespace Go.Proofs.YtpmiamphppcfeaaGreatDoor
open Go
set_option linter.unusedVariables false
set_option linter.unusedSimpArgs false
end Go.Proofs.YtpmiamphppcfeaaGreatDoor

/-
 The text of a value is read as the value; what was read is written as it was. Plain laws.
-/
namespace Go.Proofs.YtpmiamphppcfeaaGreatDoor
open Go
set_option linter.unusedVariables false
set_option linter.unusedSimpArgs false
theorem put_txt {f : Fo} (h : f.one = true) (key : Option Str) (r : Fo) (b : Bool) : (f.put key r).txt b = sepT b ++ (ktx key ++ (f.txt true ++ r.txt false)) := by
 cases f with
 | nil => cases h
 | cell k c s => cases k with
  | some _ => cases h
  | none => cases s with
   | nil => simp [Fo.put, Fo.txt, sepT, ktx]
   | _ => cases h
 | node k c kids s => cases k with
  | some _ => cases h
  | none => cases s with
   | nil => simp [Fo.put, Fo.txt, sepT, ktx]
   | _ => cases h
theorem put_any {f : Fo} (h : f.one = true) (key : Option Str) (r : Fo) : (f.put key r).flat.any outC = (f.flat.any outC || r.flat.any outC) := by
 rw [put_flat h, List.any_append, List.any_append, keyC_out, Bool.false_or]
theorem keyP_back {m : Bool} {last k : Option Str} {s w : Str} (h : keyP true m last s = some (k, w)) : s = ktx k ++ w := by
 unfold keyP at h
 cases m with
 | false => cases h; rfl
 | true =>
  simp only [cond_true] at h
  cases s with
  | nil => cases h
  | cons c r =>
   simp only at h
   cases h1 : decide (c = 34) with
   | false => rw [h1] at h; cases h
   | true =>
    rw [h1] at h
    simp only [cond_true] at h
    cases h2 : strP true r with
    | none => rw [h2] at h; cases h
    | some q =>
     obtain ⟨t, u⟩ := q
     have := strP_back _ r t u rfl h2
     rw [h2] at h
     simp only at h
     cases h3 : (true && !keyOk true last (some t)) with
     | true => rw [h3] at h; cases h
     | false =>
      rw [h3] at h
      simp only [cond_false] at h
      cases u with
      | nil => cases h
      | cons d u' =>
       simp only at h
       cases h4 : decide (d = 58) with
       | false => rw [h4] at h; cases h
       | true =>
        rw [h4] at h; cases h
        rw [of_decide_eq_true h1, this, of_decide_eq_true h4]
        simp [ktx, quoS]
theorem par_back : ∀ F : Nat, (∀ s f u, par true F s = some (f, u) → f.flat.any outC = false → s = f.txt true ++ u) ∧ (∀ m last s g u, parL true F m last s = some (g, u) → g.flat.any outC = false → s = g.txt true ++ closeC m :: u)
 | 0 => ⟨(fun s f u h => by rw [par.eq_def] at h; cases h), (fun m last s g u h => by rw [parL.eq_def] at h; cases h)⟩
 | F + 1 => by
  obtain ⟨ih1, ih2⟩ := par_back F
  obtain ⟨pl1, pl2⟩ := par_len true F
  constructor
  ·intro s f u h ho
   rw [par_succ] at h
   cases h1 : pre [110, 117, 108, 108] s with
   | some r => rw [h1] at h; cases h; rw [pre_len h1]; rfl
   | none =>
   rw [h1] at h; simp only at h
   cases h2 : pre [116, 114, 117, 101] s with
   | some r => rw [h2] at h; cases h; rw [pre_len h2]; rfl
   | none =>
   rw [h2] at h; simp only at h
   cases h3 : pre [102, 97, 108, 115, 101] s with
   | some r => rw [h3] at h; cases h; rw [pre_len h3]; rfl
   | none =>
   rw [h3] at h; simp only at h
   cases s with
   | nil => cases h
   | cons c r =>
    simp only at h
    cases h4 : decide (c = 34) with
    | true =>
     rw [h4] at h
     simp only [cond_true] at h
     cases h5 : strP true r with
     | none => rw [h5] at h; cases h
     | some q =>
      obtain ⟨t, u'⟩ := q
      rw [h5] at h; cases h
      rw [of_decide_eq_true h4, strP_back _ r t _ rfl h5]
      simp [lf, Fo.txt, sepT, ktx, leafT, quoS]
    | false =>
    rw [h4] at h
    simp only [cond_false] at h
    cases h5 : (decide (c = 91) || decide (c = 123)) with
    | true =>
     rw [h5] at h
     simp only [cond_true] at h
     have hopen : ∀ x : Str, (c :: x) = (bif decide (c = 123) then (123 : UInt8) else 91) :: x := fun x => by
      cases h6 : decide (c = 123) with
      | true => rw [of_decide_eq_true h6]; rfl
      | false => rw [h6, Bool.or_false] at h5; rw [of_decide_eq_true h5]; rfl
     rw [hopen]
     generalize decide (c = 123) = m at *
     cases r with
     | nil => cases h
     | cons d r' =>
      simp only at h
      cases h6 : decide (d = closeC m) with
      | true =>
       rw [h6] at h; cases h
       rw [of_decide_eq_true h6]
       cases m <;> simp [nd, Fo.cnt, Fo.txt, sepT, ktx, leafT, closeC]
      | false =>
       rw [h6] at h
       simp only [cond_false] at h
       cases h7 : parL true F m none (d :: r') with
       | none => rw [h7] at h; cases h
       | some q =>
        obtain ⟨g, u'⟩ := q
        rw [h7] at h; cases h
        have hc := (pl2 _ _ _ _ _ h7).2
        rw [nd_flat _ _ cnt_nil, List.any_cons, Bool.or_eq_false_iff] at ho
        rw [ih2 _ _ _ _ _ h7 ho.2]
        unfold nd
        rw [decide_eq_false (by omega)]
        cases m <;> simp [Fo.txt, sepT, ktx, brk, closeC]
    | false =>
     rw [h5] at h
     simp only [cond_false] at h
     obtain ⟨n, rfl, hb⟩ := intP_back h
     have ho' : outC ⟨3, n, [], 0⟩ = false := by simpa [Fo.flat, keyC] using ho
     rw [hb ho']
     simp [Fo.txt, sepT, ktx, leafT]
  ·intro m last s g u h ho
   rw [parL_succ] at h
   cases h1 : keyP true m last s with
   | none => rw [h1] at h; cases h
   | some q =>
    obtain ⟨key, s1⟩ := q
    rw [h1] at h; simp only at h
    cases h2 : par true F s1 with
    | none => rw [h2] at h; cases h
    | some q =>
     obtain ⟨f, s2⟩ := q
     have hone := (pl1 _ _ _ h2).2
     rw [h2] at h; simp only at h
     cases s2 with
     | nil => cases h
     | cons c s3 =>
      simp only at h
      cases h3 : decide (c = closeC m) with
      | true =>
       rw [h3] at h; cases h
       rw [put_any hone, Bool.or_eq_false_iff] at ho
       rw [keyP_back h1, ih1 _ _ _ h2 ho.1, put_txt hone, of_decide_eq_true h3]
       simp [sepT, Fo.txt]
      | false =>
       rw [h3] at h
       simp only [cond_false] at h
       cases h4 : decide (c = 44) with
       | false => rw [h4] at h; cases h
       | true =>
        rw [h4] at h
        simp only [cond_true] at h
        cases h5 : parL true F m key s3 with
        | none => rw [h5] at h; cases h
        | some q =>
         obtain ⟨g', w⟩ := q
         rw [h5] at h; cases h
         have hc := (pl2 _ _ _ _ _ h5).2
         rw [put_any hone, Bool.or_eq_false_iff] at ho
         have e5 := ih2 _ _ _ _ _ h5 ho.2
         have e6 : g'.txt false = 44 :: g'.txt true := by
          cases g' with
          | nil => simp [Fo.cnt] at hc
          | cell k c r => simp [Fo.txt, sepT]
          | node k c kids r => simp [Fo.txt, sepT]
         rw [keyP_back h1, ih1 _ _ _ h2 ho.1, put_txt hone, of_decide_eq_true h4, e5, e6]
         simp [sepT]
end Go.Proofs.YtpmiamphppcfeaaGreatDoor

/-
 Texts of values read and written again; cells compared. Plain laws (for seats that lack the rest of the package value).
-/
namespace Go.Proofs.YtpmiamphppcfeaaGreatDoor
open Go Go.RowKit
set_option linter.unusedVariables false
set_option linter.unusedSimpArgs false
theorem errF_inv {f : Fo} (h : errF f = 0) : f.flat.any outC = false ∧ f.flat.any longC = false ∧ f.flat.length ≤ 200 ∧ f.dep ≤ 8 ∧ (f.txt true).length ≤ 4000 := by
 unfold errF at h
 cases h1 : f.flat.any outC with
 | true => rw [h1] at h; cases h
 | false =>
  rw [h1] at h
  cases h2 : (f.flat.any longC || (decide (200 < f.flat.length) || (decide (8 < f.dep) || decide (4000 < (f.txt true).length)))) with
  | true => rw [h2] at h; cases h
  | false =>
   simp only [Bool.or_eq_false_iff, decide_eq_false_iff_not] at h2
   exact ⟨rfl, h2.1, by omega, by omega, by omega⟩
theorem errV_of {f : Fo} (h1 : f.one = true) (hw : f.wf false none = true) (he : errF f = 0) : errV f.flat = 0 := by
 unfold errV; rw [whole_of h1 hw]; exact he
theorem par_wf {F : Nat} {s u : Str} {f : Fo} (h : par true F s = some (f, u)) : f.wf false none = true := by
 have := ((par_rel F).1 s).1
 rw [h] at this
 cases h2 : par false F s with
 | none => rw [h2] at this; cases this
 | some q =>
  obtain ⟨g, w⟩ := q
  rw [h2] at this
  simp only at this
  cases hw : g.wf false none with
  | true => rw [hw] at this; cases this; exact hw
  | false => rw [hw] at this; cases this
theorem dec_enc {s : Str} {r : List TApiCell × Int} (h : decV s = some r) (h0 : r.2 = 0) : CkA 4000 r.1 ∧ encV r.1 = (s, 0) ∧ errV r.1 = 0 := by
 unfold decV at h
 cases h4 : decide (4000 < s.length) with
 | true => rw [h4] at h; cases h; cases h0
 | false =>
  rw [h4] at h
  simp only [decide_eq_false_iff_not] at h4
  simp only [cond_false] at h
  cases hp : par true 10000 s with
  | none => rw [hp] at h; cases h; cases h0
  | some q =>
   obtain ⟨f, w⟩ := q
   rw [hp] at h
   cases w with
   | cons _ _ => cases h; cases h0
   | nil =>
    simp only [Option.some.injEq] at h
    subst h
    cases he : decide (errF f = 0) with
    | false => rw [he] at h0; exact absurd h0 (of_decide_eq_false he)
    | true =>
     have hf := of_decide_eq_true he
     have hw := par_wf hp
     have hone := ((par_len true 10000).1 _ _ _ hp).2
     have hcells := (par_cells true 4000 10000).1 _ _ _ (by omega) hp
     have hfl := (par_flat true 10000).1 _ _ _ hp
     obtain ⟨h1, h2, h3, _⟩ := errF_inv hf
     have hb := (par_back 10000).1 _ _ _ hp h1
     rw [List.append_nil] at hb
     refine ⟨⟨by decide, by show f.flat.length ≤ 4000; omega, fun c hc => ?_⟩, ?_, errV_of hone hw hf⟩
     ·obtain ⟨a, b, c'⟩ := hcells c hc
      exact ⟨a, b, by omega⟩
     ·show encV f.flat = _
      unfold encV
      rw [whole_of hone hw]
      simp only
      rw [he, hb]; rfl
theorem decV_some (s : Str) : ∃ r, decV s = some r := by
 unfold decV
 cases decide (4000 < s.length) with
 | true => exact ⟨_, rfl⟩
 | false =>
  simp only [cond_false]
  split <;> exact ⟨_, rfl⟩
theorem take_eq_len {α : Type} {a b : List α} {n : Nat} (h : a.take n = b.take n) (h1 : a.length ≤ n) (h2 : b.length ≤ n) : a = b := by
 rw [List.take_of_length_le h1, List.take_of_length_le h2] at h; exact h
theorem slEqual_eq {F : Nat} {a b : List TApiCell} (hF : a.length < F) (hv : a.length ≤ 1152921504606846976) : slEqual F a b = some (decide (a = b)) := by
 unfold slEqual
 by_cases hl : (a.length : Int) = (b.length : Int)
 ·rw [cnd_ff (by simp [hl])]
  obtain ⟨o, h1, h2⟩ := lop_ind (body := fun σ => slEqual_b1 a b σ) (fun x => 0 ≤ x ∧ x ≤ (a.length : Int) ∧ a.take x.toNat = b.take x.toNat) (fun x => a.length - x.toNat) (fun o => oute (fun _ => slEqual_k1) o = some (decide (a = b))) (fun x ⟨h0, hx, ht⟩ => by
   by_cases h : x < (a.length : Int)
   ·have hb : x < (b.length : Int) := by omega
    obtain ⟨c, hc⟩ : ∃ c, a[x.toNat]? = some c := ⟨a[x.toNat]'(by omega), List.getElem?_eq_getElem (by omega)⟩
    obtain ⟨d, hd⟩ : ∃ d, b[x.toNat]? = some d := ⟨b[x.toNat]'(by omega), List.getElem?_eq_getElem (by omega)⟩
    have ac : at' a x = c := by simp [at', hc]
    have bd : at' b x = d := by simp [at', hd]
    have heq : (decide (c.fKind = d.fKind) && decide (c.fInt = d.fInt) && decide (c.fStr = d.fStr) && decide (c.fN = d.fN)) = decide (c = d) := by
     cases c; cases d
     rw [Bool.eq_iff_iff]
     simp only [TApiCell.mk.injEq, Bool.and_eq_true, decide_eq_true_eq]
     constructor
     ·rintro ⟨⟨⟨h1, h2⟩, h3⟩, h4⟩; exact ⟨h1, h2, h3, h4⟩
     ·rintro ⟨h1, h2, h3, h4⟩; exact ⟨⟨⟨h1, h2⟩, h3⟩, h4⟩
    have hb1 : slEqual_b1 a b x = cnd (!decide (c = d)) (some (.out (.ret false))) (some (.next (x + 1))) := by
     unfold slEqual_b1
     rw [cnd_tt (decide_eq_true h), chk_inR h0 h, chk_inR h0 hb, ac, bd, heq, chk_i64 (by omega) (by omega)]
    by_cases hcd : c = d
    ·refine .inl ⟨x + 1, hb1.trans (by rw [cnd_ff (by simp [hcd])]), ⟨by omega, by omega, ?_⟩, by omega⟩
     rw [show (x + 1).toNat = x.toNat + 1 from by omega, List.take_add_one, List.take_add_one, ht, hc, hd, hcd]
    ·refine .inr ⟨.ret false, hb1.trans (by rw [cnd_tt (by simp [hcd])]), ?_⟩
     rw [oute_ret, decide_eq_false]
     intro e; subst e; rw [hc] at hd; cases hd; exact hcd rfl
   ·refine .inr ⟨.go (), by unfold slEqual_b1; rw [cnd_ff (decide_eq_false h)], ?_⟩
    rw [oute_go, decide_eq_true (take_eq_len ht (by omega) (by omega))]; rfl) F 0 ⟨Int.le_refl 0, by omega, rfl⟩ (by show a.length - 0 < F; omega)
  rw [obn_s h1, h2]
 ·rw [cnd_tt (by simp [hl]), decide_eq_false]
  intro e; subst e; exact hl rfl
theorem rSame_eq {F : Nat} {a b : List TApiCell} (hF : a.length < F) (hv : a.length ≤ 1152921504606846976) : rSame F a b = some (decide (a = b)) := (show rSame F a b = slEqual F a b from rfl).trans (slEqual_eq hF hv)
section
variable {M : Nat} {v : List TApiCell}
end
end Go.Proofs.YtpmiamphppcfeaaGreatDoor

/-
 Events: Check, Encode and Decode of the package and of its reference. Plain laws.
-/
namespace Go.Proofs.YtpmiamphppcfeaaGreatDoor
open Go
set_option linter.unusedVariables false
set_option linter.unusedSimpArgs false
structure EvA (M : Nat) (e : TApiEvent) : Prop where
 hb : CkA M e.fBody
 h1 : e.fID.length ≤ 1000000
 h2 : e.fTenant.length ≤ 1000000
 h3 : e.fSource.length ≤ 1000000
 h4 : e.fKey.length ≤ 1000000
 h5 : e.fCause.length ≤ 1000000
 h6 : -9223372036854775808 ≤ e.fAt ∧ e.fAt ≤ 9223372036854775807
def optS (s : Str) : Bool := decide (s = []) || idS s
def idsE (e : TApiEvent) : Bool := idS e.fID && (idS e.fTenant && (idS e.fSource && (optS e.fKey && optS e.fCause)))
def errE (e : TApiEvent) : Int := bif !idsE e then 4 else bif decide (e.fAt < 0) || decide (1073741824 < e.fAt) then 2 else errV e.fBody
theorem eCheck_eq {M : Nat} {e : TApiEvent} (hA : EvA M e) (hM : M ≤ 4000) : eCheck 20000 e = some (errE e) := by
 unfold eCheck errE
 rw [vCheck_eq hA.hb (by omega) (by omega)]
 have key : ((!(idS e.fID)) || ((!(idS e.fTenant)) || ((!(idS e.fSource)) || (bif !decide (e.fKey = ([] : Str)) then ((!(idS e.fKey)) || ((!decide (e.fCause = ([] : Str))) && (!(idS e.fCause)))) else ((!decide (e.fCause = ([] : Str))) && (!(idS e.fCause))))))) = !idsE e := by
  unfold idsE optS
  cases idS e.fID <;> cases idS e.fTenant <;> cases idS e.fSource <;> cases decide (e.fKey = []) <;> cases idS e.fKey <;> cases decide (e.fCause = []) <;> cases idS e.fCause <;> rfl
 rw [key]
 cases idsE e with
 | false => rfl
 | true =>
  rw [cnd_ff (p := !true) rfl]
  cases (decide (e.fAt < 0) || decide (1073741824 < e.fAt)) <;> rfl
theorem rOptional_eq {s : Str} (h : s.length ≤ 1000000) : rOptional s = some (optS s) := by
 unfold rOptional optS
 rw [chk_t]
 unfold imp
 rw [show inA 1 s.length = true from decide_eq_true (by omega)]
 cases decide (s = []) <;> rfl
theorem imp_c (a : Bool) {b : Bool} (h : b = true) : imp a b = true := by subst h; exact imp_tt a
theorem in1 {n : Nat} (h : n ≤ 1000000) : inA 1 n = true := decide_eq_true (by omega)
theorem rCheckE_eq {M : Nat} {e : TApiEvent} (hA : EvA M e) (hM : M ≤ 4000) : rCheckE 20000 e = some (errE e) := by
 unfold rCheckE errE
 rw [rCheck_eq hA.hb (by omega) (by omega), rOptional_eq hA.h4, rOptional_eq hA.h5]
 simp only [Option.isSome_some]
 rw [chk_t (in1 hA.h1), chk_t (imp_c _ (in1 hA.h2)), chk_t (imp_c _ (imp_c _ (in1 hA.h3))), chk_t (imp_c _ (imp_c _ (imp_c _ rfl))), chk_t (imp_c _ (imp_c _ (imp_c _ (imp_c _ rfl))))]
 have key : ((!(idS e.fID)) || ((!(idS e.fTenant)) || ((!(idS e.fSource)) || ((!(ov (some (optS e.fKey)))) || (!(ov (some (optS e.fCause)))))))) = !idsE e := by
  unfold idsE
  rw [ov_some, ov_some]
  cases idS e.fID <;> cases idS e.fTenant <;> cases idS e.fSource <;> cases optS e.fKey <;> cases optS e.fCause <;> rfl
 rw [key]
 cases idsE e with
 | false => rfl
 | true =>
  rw [cnd_ff (p := !true) rfl]
  cases (decide (e.fAt < 0) || decide (1073741824 < e.fAt)) <;> rfl
/-! ### Decode -/
def zE : TApiEvent := TApiEvent.mk [] [] [] [] 0 [] []
def mkE (l : List Str) (b : List TApiCell) : TApiEvent := TApiEvent.mk (at' l 0) (at' l 1) (at' l 2) (at' l 3) (parseV (at' l 4)) (at' l 5) b
def finE (l : List Str) (r : List TApiCell × Int) : TApiEvent × Int :=
 bif !decide (r.2 = 0) then (zE, r.2) else bif !decide (errE (mkE l r.1) = 0) then (zE, errE (mkE l r.1)) else (mkE l r.1, 0)
def decE (s : Str) : TApiEvent × Int :=
 bif !decide ((unpV s).2 = 0) then (zE, (unpV s).2) else bif !decide (((unpV s).1.length : Int) = 7) then (zE, 13)
 else bif !decide (parseE (at' (unpV s).1 4) = 0) then (zE, parseE (at' (unpV s).1 4)) else finE (unpV s).1 (ov (decV (at' (unpV s).1 6)))
theorem decV_ck {s : Str} {r : List TApiCell × Int} (h : decV s = some r) : CkA 4000 r.1 := by
 by_cases h0 : r.2 = 0
 ·exact (dec_enc h h0).1
 ·have : r.1 = [] := by
   unfold decV at h
   cases h4 : decide (4000 < s.length) with
   | true => rw [h4] at h; cases h; rfl
   | false =>
    rw [h4] at h
    simp only [cond_false] at h
    split at h
    ·rename_i f _
     cases he : decide (errF f = 0) with
     | true => rw [he] at h; cases h; exact absurd rfl h0
     | false => rw [he] at h; cases h; rfl
    ·cases h; rfl
  rw [this]
  exact ⟨by decide, by simp, fun c hc => by cases hc⟩
theorem at_len {l : List Str} (h : ∀ f ∈ l, f.length ≤ 4000) (i : Int) : (at' l i).length ≤ 4000 := by
 unfold at'
 cases hi : l[i.toNat]? with
 | none => exact Nat.zero_le _
 | some f => exact h f (List.mem_of_getElem? hi)
theorem mkE_A {l : List Str} (h : ∀ f ∈ l, f.length ≤ 4000) {b : List TApiCell} (hb : CkA 4000 b) : EvA 4000 (mkE l b) :=
 ⟨hb, Nat.le_trans (at_len h 0) (by decide), Nat.le_trans (at_len h 1) (by decide), Nat.le_trans (at_len h 2) (by decide), Nat.le_trans (at_len h 3) (by decide), Nat.le_trans (at_len h 5) (by decide), by have := parse_bd (at' l 4); exact ⟨by show _ ≤ parseV (at' l 4); omega, by show parseV (at' l 4) ≤ _; omega⟩⟩
theorem eDecode_eq {s : Str} (hs : s.length ≤ 1000000) : eDecode 20000 s = some (decE s) := by
 unfold eDecode decE
 rw [fUnpack_eq (by decide) (by omega), obn_s rfl]
 cases h1 : decide ((unpV s).2 = 0) with
 | false => rfl
 | true =>
  have hsm : ∀ f ∈ (unpV s).1, f.length ≤ 4000 := fun f hf => unp_small hf (of_decide_eq_true h1)
  rw [cnd_ff (p := !true) rfl]
  generalize (unpV s).1 = l at *
  cases h2 : decide ((l.length : Int) = 7) with
  | false => rfl
  | true =>
   have h7 := of_decide_eq_true h2
   have e4 := at_len hsm 4
   rw [cnd_ff (p := !true) rfl, chk_inR (by omega) (by omega), chk_t (in1 (by omega))]
   cases h3 : decide (parseE (at' l 4) = 0) with
   | false => rfl
   | true =>
    obtain ⟨r, hr⟩ := decV_some (at' l 6)
    rw [cnd_ff (p := !true) rfl, chk_inR (by omega) (by omega), vDecode_eq, hr, obn_s rfl, ov_some]
    simp only [Bool.not_true, cond_false]
    unfold finE
    cases h4 : decide (r.2 = 0) with
    | false => rfl
    | true =>
     rw [cnd_ff (p := !true) rfl, chk_inR (by omega) (by omega), chk_inR (by omega) (by omega), chk_inR (by omega) (by omega), chk_inR (by omega) (by omega), chk_inR (by omega) (by omega)]
     have := eCheck_eq (mkE_A hsm (decV_ck hr)) (by decide)
     unfold mkE at this ⊢
     rw [this, obn_s rfl]
     simp only [Bool.not_true, cond_false]
     cases decide (errE (TApiEvent.mk (at' l 0) (at' l 1) (at' l 2) (at' l 3) (parseV (at' l 4)) (at' l 5) r.1) = 0) <;> rfl
theorem rDecodeE_eq {s : Str} (hs : s.length ≤ 1000000) : rDecodeE 20000 s = some (decE s) := by
 unfold rDecodeE decE
 rw [r4Unpack_eq (by decide) (by omega), obn_s rfl]
 cases h1 : decide ((unpV s).2 = 0) with
 | false => rfl
 | true =>
  have hsm : ∀ f ∈ (unpV s).1, f.length ≤ 4000 := fun f hf => unp_small hf (of_decide_eq_true h1)
  rw [cnd_ff (p := !true) rfl]
  generalize (unpV s).1 = l at *
  cases h2 : decide ((l.length : Int) = 7) with
  | false => rfl
  | true =>
   have h7 := of_decide_eq_true h2
   have e4 := at_len hsm 4
   rw [cnd_ff (p := !true) rfl, chk_inR (by omega) (by omega), chk_t (in1 (by omega))]
   cases h3 : decide (parseE (at' l 4) = 0) with
   | false => rfl
   | true =>
    obtain ⟨r, hr⟩ := decV_some (at' l 6)
    rw [cnd_ff (p := !true) rfl, chk_inR (by omega) (by omega), rDecode_eq, hr, obn_s rfl, ov_some]
    simp only [Bool.not_true, cond_false]
    unfold finE
    cases h4 : decide (r.2 = 0) with
    | false => rfl
    | true =>
     rw [cnd_ff (p := !true) rfl, chk_inR (by omega) (by omega), chk_inR (by omega) (by omega), chk_inR (by omega) (by omega), chk_inR (by omega) (by omega), chk_inR (by omega) (by omega)]
     have := rCheckE_eq (mkE_A hsm (decV_ck hr)) (by decide)
     unfold mkE at this ⊢
     rw [this, obn_s rfl]
     simp only [Bool.not_true, cond_false]
     cases decide (errE (TApiEvent.mk (at' l 0) (at' l 1) (at' l 2) (at' l 3) (parseV (at' l 4)) (at' l 5) r.1) = 0) <;> rfl
/-! ### Same -/
theorem same_ev (a b : TApiEvent) : ((decide (a.fID = b.fID)) && ((decide (a.fTenant = b.fTenant)) && ((decide (a.fSource = b.fSource)) && ((decide (a.fKey = b.fKey)) && ((decide (a.fAt = b.fAt)) && ((decide (a.fCause = b.fCause)) && decide (a.fBody = b.fBody))))))) = decide (a = b) := by
 obtain ⟨a1, a2, a3, a4, a5, a6, a7⟩ := a
 obtain ⟨b1, b2, b3, b4, b5, b6, b7⟩ := b
 rw [Bool.eq_iff_iff]
 simp only [TApiEvent.mk.injEq, Bool.and_eq_true, decide_eq_true_eq]
theorem rSameE_eq {a b : TApiEvent} (ha : a.fBody.length < 20000) : rSameE 20000 a b = some (decide (a = b)) := by
 unfold rSameE
 rw [rSame_eq ha (by omega)]
 simp only [Option.isSome_some]
 rw [chk_t (imp_c _ (imp_c _ (imp_c _ (imp_c _ (imp_c _ (imp_c _ rfl)))))), ov_some, same_ev]
theorem decE_body (s : Str) : (decE s).1.fBody.length ≤ 4000 := by
 unfold decE
 cases !decide ((unpV s).2 = 0) with
 | true => exact Nat.zero_le _
 | false =>
  simp only [cond_false]
  cases !decide (((unpV s).1.length : Int) = 7) with
  | true => exact Nat.zero_le _
  | false =>
   simp only [cond_false]
   cases !decide (parseE (at' (unpV s).1 4) = 0) with
   | true => exact Nat.zero_le _
   | false =>
    obtain ⟨r, hr⟩ := decV_some (at' (unpV s).1 6)
    rw [hr, ov_some]
    simp only [cond_false]
    have := (decV_ck hr).hv
    unfold finE
    cases !decide (r.2 = 0) with
    | true => exact Nat.zero_le _
    | false =>
     simp only [cond_false]
     cases !decide (errE (mkE (unpV s).1 r.1) = 0) with
     | true => exact Nat.zero_le _
     | false => exact this
theorem evAwake_ok : evAwake 20000 = some true := by decide +kernel
end Go.Proofs.YtpmiamphppcfeaaGreatDoor

/-
 Events: sizes, children, orders and lineages, of the package and of its reference. Plain laws.
-/
namespace Go.Proofs.YtpmiamphppcfeaaGreatDoor
open Go
set_option linter.unusedVariables false
set_option linter.unusedSimpArgs false
/-! ### Sizes -/
def smallB (v : List TApiCell) : Bool := !decide (250 < v.length) && v.all fun c => !decide (250 < c.fStr.length)
def shortE (e : TApiEvent) : Bool := !(decide (100 < e.fID.length) || (decide (100 < e.fTenant.length) || (decide (100 < e.fSource.length) || (decide (100 < e.fKey.length) || decide (100 < e.fCause.length)))))
def smallE (e : TApiEvent) : Bool := shortE e && smallB e.fBody
theorem CkA.ofB {v : List TApiCell} (hs : smallB v = true) (hc : v.all okCell = true) : CkA 250 v := by
 unfold smallB at hs
 simp only [Bool.and_eq_true, Bool.not_eq_true', decide_eq_false_iff_not, List.all_eq_true] at hs hc
 refine ⟨by decide, by omega, fun c h => ?_⟩
 obtain h1 := hs.2 c h
 obtain h2 := hc c h
 unfold okCell at h2
 simp only [Bool.and_eq_true] at h2
 exact ⟨by omega, h2.1.1.2, (inK_i64 h2.2).2⟩
def okEv (y : TApiEvent) : Bool := okS y.fID && okS y.fTenant && okS y.fSource && okS y.fKey && (inK .i64) y.fAt && okS y.fCause && (fun ys : (List TApiCell) => ys.all okCell && decide (ys.length ≤ 9223372036854775807)) y.fBody
theorem EvA.of {e : TApiEvent} (hs : smallE e = true) (ho : okEv e = true) : EvA 250 e := by
 unfold smallE shortE at hs
 unfold okEv at ho
 simp only [Bool.and_eq_true, Bool.not_eq_true', Bool.or_eq_false_iff, decide_eq_false_iff_not] at hs ho
 obtain ⟨⟨a1, a2, a3, a4, a5⟩, a6⟩ := hs
 exact ⟨CkA.ofB a6 ho.2.1, by omega, by omega, by omega, by omega, by omega, inK_i64 ho.1.1.2⟩
/-! ### Children -/
section
variable {M : Nat} {e : TApiEvent} {n : Int} {source : Str} {body : List TApiCell} {at_ : Int}
end
/-! ### The order -/
/-! ### Lineages -/
end Go.Proofs.YtpmiamphppcfeaaGreatDoor

/-
 The plain law of EventDecodes: for all arguments whose numbers fit.
-/
namespace Go.Proofs.YtpmiamphppcfeaaGreatDoor
open Go
set_option linter.unusedVariables false
set_option linter.unusedSimpArgs false
theorem lEvDecodes_law {s : Str} : lEvDecodes 20000 s = some true := by
 unfold lEvDecodes
 rw [evAwake_ok]
 cases h : decide ((1000 : Int) < (s.length : Int)) with
 | true => rw [cnd_tt rfl, obn_s rfl]
 | false =>
  simp only [decide_eq_false_iff_not] at h
  have hb := decE_body s
  rw [cnd_ff rfl, eDecode_eq (by omega), obn_s rfl, rDecodeE_eq (by omega), obn_s rfl, rSameE_eq (by omega)]
  simp only [Option.isSome_some, decide_true, chk_t, imp_tt, ov_some, Bool.and_self]
end Go.Proofs.YtpmiamphppcfeaaGreatDoor
namespace Go.Proofs.YtpmiamphppcfeaaGreatDoor.lawEventDecodes
open Go
set_option linter.unusedVariables false
theorem law : Law := fun s _ => ⟨20000, lEvDecodes_law⟩
end Go.Proofs.YtpmiamphppcfeaaGreatDoor.lawEventDecodes
