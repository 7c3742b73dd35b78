/-
  Texts of the proof, put together: LdC, LdD, LdE, LdF, LdG, LdH, LdI, LdJ, LdK, LtA, LrB, LtB, LtD, LeA, LeB, LeC, LwEvTrips.
-/
import Derived.Test.YtpmiamphppcfeaaDoorER5
/-
 value's reader: words, strings, integers, told by the plain reader of bytes. Plain laws.
-/
namespace Go.Proofs.YtpmiamphppcfeaaDoor
open Go
set_option linter.unusedVariables false
set_option linter.unusedSimpArgs false
def Suf (u S : Str) : Prop := ∃ p, S = p ++ u
theorem Suf.len {u S : Str} (h : Suf u S) : u.length ≤ S.length := by obtain ⟨p, rfl⟩ := h; simp
theorem Suf.tail {c : UInt8} {r S : Str} (h : Suf (c :: r) S) : Suf r S := by obtain ⟨p, rfl⟩ := h; exact ⟨p ++ [c], by simp⟩
theorem Suf.app {w r S : Str} (h : Suf (w ++ r) S) : Suf r S := by obtain ⟨p, rfl⟩ := h; exact ⟨p ++ w, by simp⟩
theorem Suf.drop {u S : Str} (h : Suf u S) : S.drop (Int.toNat ((S.length : Int) - u.length)) = u := by
 obtain ⟨p, rfl⟩ := h
 rw [show Int.toNat (((p ++ u).length : Int) - u.length) = p.length from by rw [List.length_append]; omega, List.drop_left]
theorem Suf.get {c : UInt8} {r S : Str} (h : Suf (c :: r) S) : S[(Int.toNat ((S.length : Int) - (c :: r).length))]? = some c := by
 have := h.drop
 have h2 : (S.drop (Int.toNat ((S.length : Int) - (c :: r).length)))[0]? = some c := by rw [this]; rfl
 simpa using h2
def mkq (S u : Str) (cs : List TApiCell) (g : Bool) : TValueReader := ⟨S, (S.length : Int) - u.length, cs, g⟩
theorem pre_app : ∀ (w r : Str), pre w (w ++ r) = some r
 | [], r => rfl
 | c :: w, r => by
  show (bif decide (c = c) then pre w (w ++ r) else none) = some r
  rw [decide_eq_true rfl]; exact pre_app w r
theorem pre_isSome (w s : Str) : (decide ((w.length : Int) ≤ (s.length : Int)) && decide (List.take (Int.toNat (w.length : Int)) s = w)) = (pre w s).isSome := by
 cases h : pre w s with
 | some r =>
  have := pre_len h
  subst this
  simp
  omega
 | none =>
  rw [Bool.eq_iff_iff]
  simp only [Bool.and_eq_true, decide_eq_true_eq, Option.isSome_none, Bool.false_eq_true, iff_false, not_and]
  intro hl e
  have : s = w ++ s.drop w.length := by
   conv => lhs; rw [← List.take_append_drop w.length s]
   rw [show Int.toNat (w.length : Int) = w.length from by omega] at e
   rw [e]
  rw [this, pre_app] at h
  cases h
theorem hasPrefix_eq (s w : Str) : hasPrefix s w = some (pre w s).isSome := by
 unfold hasPrefix slHasPrefix
 rw [← pre_isSome]
 have : imp (decide ((w.length : Int) ≤ (s.length : Int))) (inC (w.length : Int) (s.length : Int)) = true := by
  cases hd : decide ((w.length : Int) ≤ (s.length : Int)) with
  | false => rfl
  | true => simp only [imp]; rw [inC' (by omega) (by simpa using hd)]; rfl
 rw [chk_t this]; rfl
theorem vTake_eq {S u w : Str} {cs : List TApiCell} {g : Bool} (hS : S.length ≤ 100000) (h : Suf u S) : vTake (mkq S u cs g) w = match pre w u with
  | some r => some (true, mkq S r cs g)
  | none => some (false, mkq S u cs g) := by
 have hl := h.len
 unfold vTake mkq
 simp only
 rw [chk_inC (by omega) (by omega), h.drop, hasPrefix_eq, obn_s rfl]
 cases hp : pre w u with
 | none => rfl
 | some r =>
  have e := pre_len hp
  have el : u.length = w.length + r.length := by rw [e]; simp
  rw [cnd_ff (p := !(some r).isSome) rfl, chk_i64 (by omega) (by omega), show (S.length : Int) - u.length + w.length = S.length - r.length from by omega]
theorem pre1 (c : UInt8) (u : Str) : pre [c] u = match u with
  | [] => none
  | d :: r => bif decide (d = c) then some r else none := by
 cases u with
 | nil => rfl
 | cons d r =>
  show (bif decide (c = d) then some r else none) = _
  have : decide (c = d) = decide (d = c) := by rw [Bool.eq_iff_iff]; simp only [decide_eq_true_eq]; exact eq_comm
  rw [this]
theorem ofI_snoc (A : Str) : ofI (toI A) = A := by
 induction A with
 | nil => rfl
 | cons c A ih =>
  show UInt8.ofNat (Int.toNat (c.toNat : Int)) :: ofI (toI A) = c :: A
  rw [ih, ← (show UInt8.ofNat c.toNat = c from by simp)]; simp
theorem strP_ok : ∀ (n : Nat) (s t u : Str), s.length = n → strP true s = some (t, u) → t.all okc = true := by
 intro n
 induction n using Nat.strongRecOn with
 | ind n ih =>
  intro s t u hn h
  cases s with
  | nil => cases h
  | cons c r =>
   simp only [List.length_cons] at hn
   rw [strP_cons] at h
   cases h1 : decide (c = 34) with
   | true => rw [h1] at h; cases h; rfl
   | false =>
    rw [h1] at h
    simp only [cond_false, Bool.true_and] at h
    cases h2 : okc c with
    | false => rw [h2] at h; cases h
    | true =>
     rw [h2] at h
     simp only [Bool.not_true, cond_false] at h
     cases h3 : decide (c = 92) with
     | true =>
      rw [h3] at h
      cases r with
      | nil => cases h
      | cons d r' =>
       simp only [cond_true] at h
       cases h4 : (decide (d = 34) || decide (d = 92)) with
       | false => rw [h4] at h; cases h
       | true =>
        rw [h4] at h
        simp only [cond_true] at h
        cases h5 : strP true r' with
        | none => rw [h5] at h; cases h
        | some q =>
         obtain ⟨t', u'⟩ := q
         rw [h5] at h; cases h
         simp only [List.length_cons] at hn
         have := ih r'.length (by omega) r' t' u rfl h5
         have hd : okc d = true := by
          simp only [Bool.or_eq_true, decide_eq_true_eq] at h4
          rcases h4 with e | e <;> subst e <;> rfl
         simp [hd, this]
     | false =>
      rw [h3] at h
      simp only [cond_false] at h
      cases h5 : strP true r with
      | none => rw [h5] at h; cases h
      | some q =>
       obtain ⟨t', u'⟩ := q
       rw [h5] at h; cases h
       have := ih r.length (by omega) r t' u rfl h5
       simp [h2, this]
theorem okc_bat {c : UInt8} : (decide ((c.toNat : Int) < 32) || decide (126 < (c.toNat : Int))) = !okc c := by
 unfold okc
 rw [Bool.eq_iff_iff]
 simp only [Bool.or_eq_true, decide_eq_true_eq, Bool.not_eq_true', Bool.and_eq_false_iff, decide_eq_false_iff_not]; omega
theorem int34 (c : UInt8) : decide ((c.toNat : Int) = 34) = decide (c = 34) := by
 rw [Bool.eq_iff_iff, decide_eq_true_iff, decide_eq_true_iff, ← UInt8.toNat_inj]
 show _ ↔ c.toNat = 34
 omega
theorem int92 (c : UInt8) : decide ((c.toNat : Int) = 92) = decide (c = 92) := by
 rw [Bool.eq_iff_iff, decide_eq_true_iff, decide_eq_true_iff, ← UInt8.toNat_inj]
 show _ ↔ c.toNat = 92
 omega
theorem toI_snoc (A : Str) (c : UInt8) : toI A ++ ([(c.toNat : Int)] : List Int) = toI (A ++ [c]) := by simp [toI]
theorem vRStr_lop {S : Str} {cs : List TApiCell} {g b : Bool} {p : Int} (hS : S.length ≤ 100000) : ∀ (n L : Nat) (u A : Str), u.length = n → Suf u S → n < L → A.length ≤ S.length - n →
  ∃ o, lop (fun σ => vRStr_b1 (b, ⟨S, p, cs, g⟩) σ.1 σ.2) L (toI A, (S.length : Int) - u.length) = some o ∧ ((∃ t w, strP true u = some (t, w) ∧ Suf w S ∧ oute (fun ν => vRStr_k1 (b, ⟨S, p, cs, g⟩) ν) o = some (A ++ t, true, mkq S w cs g)) ∨ (strP true u = none ∧ ∃ q', oute (fun ν => vRStr_k1 (b, ⟨S, p, cs, g⟩) ν) o = some ([], false, q'))) := by
 intro n
 induction n using Nat.strongRecOn with
 | ind n ih =>
  intro L u A hn hs hL hA
  obtain ⟨L, rfl⟩ : ∃ K, L = K + 1 := ⟨L - 1, by omega⟩
  have hsl := hs.len
  cases u with
  | nil =>
   have hgo : vRStr_b1 (b, ⟨S, p, cs, g⟩) (toI A) ((S.length : Int) - ([] : Str).length) = some (.out (.go ((S.length : Int) - ([] : Str).length))) := by
    unfold vRStr_b1
    rw [cnd_ff (decide_eq_false (by simp))]
   exact ⟨_, lop_o hgo, .inr ⟨rfl, _, rfl⟩⟩
  | cons c r =>
   have hb : bat S ((S.length : Int) - (c :: r).length) = c.toNat := bat_get hs.get
   have hpos : (S.length : Int) - (c :: r).length + 1 = S.length - r.length := by rw [List.length_cons]; omega
   simp only [List.length_cons] at hn hsl
   have hlt : (S.length : Int) - (c :: r).length < S.length := by rw [List.length_cons]; omega
   have h0 : 0 ≤ (S.length : Int) - (c :: r).length := by rw [List.length_cons]; omega
   have hb1 : vRStr_b1 (b, ⟨S, p, cs, g⟩) (toI A) ((S.length : Int) - (c :: r).length) = cnd (decide (c = 34)) (some (.out (.ret (A, true, mkq S r cs g)))) (cnd (!okc c) (some (.out (.ret ([], false, mkq S r cs g)))) (cnd (decide (c = 92)) (chk (imp (!(decide ((S.length : Int) ≤ S.length - r.length))) (inR (S.length - r.length) (S.length : Int))) <| cnd (((decide ((S.length : Int) ≤ S.length - r.length)) || ((!decide ((bat S (S.length - r.length)) = 34)) && (!decide ((bat S (S.length - r.length)) = 92))))) (some (.out (.ret ([], false, mkq S r cs g)))) (chk (inR (S.length - r.length) (S.length : Int)) <| chk (inK .i64 (((S.length : Int) - r.length) + 1)) <| vRStr_j2 (toI A) (bat S (S.length - r.length)) (((S.length : Int) - r.length) + 1))) (vRStr_j2 (toI A) (c.toNat : Int) ((S.length : Int) - r.length)))) := by
    unfold vRStr_b1
    simp only
    rw [cnd_tt (decide_eq_true hlt), chk_inR h0 hlt, hb, hpos, chk_i64 (by omega) (by omega), int34, int92, okc_bat, ofI_snoc]
    rfl
   have hj : ∀ (x : UInt8) (y : Int), vRStr_j2 (toI A) (x.toNat : Int) y = some (.next (toI (A ++ [x]), y)) := fun x y => by
    unfold vRStr_j2
    rw [chk_inA (by simp [toI]; omega), toI_snoc]
   rw [strP_cons]
   cases h1 : decide (c = 34) with
   | true =>
    rw [h1] at hb1
    exact ⟨.ret (A, true, mkq S r cs g), lop_o hb1, .inl ⟨[], r, rfl, hs.tail, by rw [oute_ret, List.append_nil]⟩⟩
   | false =>
    rw [h1, cnd_ff rfl] at hb1
    simp only [cond_false, Bool.true_and]
    cases h2 : okc c with
    | false =>
     rw [h2, cnd_tt (p := !false) rfl] at hb1
     exact ⟨_, lop_o hb1, .inr ⟨rfl, _, rfl⟩⟩
    | true =>
     rw [h2, cnd_ff (p := !true) rfl] at hb1
     simp only [Bool.not_true, cond_false]
     cases h3 : decide (c = 92) with
     | true =>
      rw [h3, cnd_tt rfl] at hb1
      cases r with
      | nil =>
       have e : decide ((S.length : Int) ≤ S.length - ([] : Str).length) = true := by simp
       rw [e, chk_t (p := imp (!true) _) rfl, cnd_tt (p := true || _) rfl] at hb1
       exact ⟨_, lop_o hb1, .inr ⟨rfl, _, rfl⟩⟩
      | cons d r' =>
       simp only [List.length_cons] at hn hsl
       have hbd : bat S ((S.length : Int) - (d :: r').length) = d.toNat := bat_get hs.tail.get
       have hlt2 : (S.length : Int) - (d :: r').length < S.length := by rw [List.length_cons]; omega
       have h02 : 0 ≤ (S.length : Int) - (d :: r').length := by rw [List.length_cons]; omega
       have hpos2 : (S.length : Int) - (d :: r').length + 1 = S.length - r'.length := by rw [List.length_cons]; omega
       have e : decide ((S.length : Int) ≤ S.length - (d :: r').length) = false := decide_eq_false (by omega)
       rw [e, inR' h02 hlt2, hbd, hpos2, int34, int92, chk_t (p := imp (!false) true) rfl] at hb1
       simp only [cond_true]
       cases h4 : (decide (d = 34) || decide (d = 92)) with
       | false =>
        have e4 : (false || (!decide (d = 34) && !decide (d = 92))) = true := by rw [← Bool.not_or, h4]; rfl
        rw [cnd_tt e4] at hb1
        exact ⟨_, lop_o hb1, .inr ⟨rfl, _, rfl⟩⟩
       | true =>
        have e4 : (false || (!decide (d = 34) && !decide (d = 92))) = false := by rw [← Bool.not_or, h4]; rfl
        rw [cnd_ff e4, chk_t rfl, chk_i64 (by omega) (by omega), hj] at hb1
        obtain ⟨o, ho1, ho2⟩ := ih r'.length (by omega) L r' (A ++ [d]) rfl hs.tail.tail (by omega) (by rw [app1_len]; omega)
        refine ⟨o, lop_n hb1 ho1, ?_⟩
        simp only [cond_true]
        rcases ho2 with ⟨t, w, q1, q2, q3⟩ | ⟨q1, q2⟩
        ·rw [q1]; exact .inl ⟨d :: t, w, rfl, q2, by rw [q3]; simp⟩
        ·rw [q1]; exact .inr ⟨rfl, q2⟩
     | false =>
      rw [h3, cnd_ff rfl, hj] at hb1
      obtain ⟨o, ho1, ho2⟩ := ih r.length (by omega) L r (A ++ [c]) rfl hs.tail (by omega) (by rw [app1_len]; omega)
      refine ⟨o, lop_n hb1 ho1, ?_⟩
      simp only [cond_false]
      rcases ho2 with ⟨t, w, q1, q2, q3⟩ | ⟨q1, q2⟩
      ·rw [q1]; exact .inl ⟨c :: t, w, rfl, q2, by rw [q3]; simp⟩
      ·rw [q1]; exact .inr ⟨rfl, q2⟩
theorem vRStr_eq {F : Nat} {S u : Str} {cs : List TApiCell} {g : Bool} (hS : S.length ≤ 100000) (h : Suf u S) (hF : S.length < F) :
  (∃ r t w, u = 34 :: r ∧ strP true r = some (t, w) ∧ Suf w S ∧ vRStr F (mkq S u cs g) = some (t, true, mkq S w cs g)) ∨ ((∀ r, u = 34 :: r → strP true r = none) ∧ ∃ q', vRStr F (mkq S u cs g) = some ([], false, q')) := by
 unfold vRStr
 rw [vTake_eq hS h, pre1]
 cases u with
 | nil => exact .inr ⟨(fun r e => by cases e), _, rfl⟩
 | cons c r =>
  simp only
  cases hc : decide (c = 34) with
  | false =>
   simp only [decide_eq_false_iff_not] at hc
   exact .inr ⟨(fun r' e => by cases e; exact absurd rfl hc), _, rfl⟩
  | true =>
   simp only [decide_eq_true_eq] at hc
   subst hc
   have hl := h.len
   simp only [List.length_cons] at hl
   simp only [cond_true]
   rw [obn_s rfl, cnd_ff (p := !true) rfl]
   obtain ⟨o, ho1, ho2⟩ := vRStr_lop (b := true) (cs := cs) (g := g) (p := (S.length : Int) - r.length) hS r.length F r [] rfl h.tail (by omega) (Nat.zero_le _)
   have ho1' : lop (fun σ => vRStr_b1 (true, mkq S r cs g) σ.1 σ.2) F ([], (S.length : Int) - r.length) = some o := ho1
   rw [show (true, mkq S r cs g).2.fAt = (S.length : Int) - r.length from rfl, obn_s ho1']
   rcases ho2 with ⟨t, w, q1, q2, q3⟩ | ⟨q1, q', q2⟩
   ·exact .inl ⟨r, t, w, rfl, q1, q2, q3⟩
   ·exact .inr ⟨(fun r' e => by cases e; exact q1), q', q2⟩
end Go.Proofs.YtpmiamphppcfeaaDoor

/-
 value's reader: integers and scalars. Plain laws.
-/
namespace Go.Proofs.YtpmiamphppcfeaaDoor
open Go
set_option linter.unusedVariables false
set_option linter.unusedSimpArgs false
def fixC (c : TApiCell) : TApiCell := bif outC c then ⟨3, 0, [], 0⟩ else c
theorem digP_all : ∀ s : Str, (digP s).1.all isDig = true
 | [] => rfl
 | c :: r => by
  rw [digP]
  cases h : isDig c with
  | true => simp only [cond_true, List.all_cons, h, digP_all r]; rfl
  | false => rfl
theorem dig_bat {c : UInt8} : (decide (48 ≤ (c.toNat : Int)) && decide ((c.toNat : Int) ≤ 57)) = isDig c := by
 unfold isDig
 rw [Bool.eq_iff_iff]
 simp only [Bool.and_eq_true, decide_eq_true_eq]; omega
theorem vRInt_lop {S : Str} {cs : List TApiCell} {g b : Bool} {p : Int} (hS : S.length ≤ 100000) : ∀ (u : Str) (L : Nat), Suf u S → u.length < L →
  lop (fun σ => vRInt_b1 (b, ⟨S, p, cs, g⟩) σ) L ((S.length : Int) - u.length) = some (.go ((S.length : Int) - (digP u).2.length))
 | [], L, hs, hL => by
  obtain ⟨L, rfl⟩ : ∃ K, L = K + 1 := ⟨L - 1, by omega⟩
  refine lop_o ?_
  show vRInt_b1 _ _ = _
  unfold vRInt_b1
  have e : decide ((S.length : Int) - ([] : Str).length < (S.length : Int)) = false := by simp
  simp only
  rw [e, chk_t (p := imp false _) rfl, cnd_ff (p := false && _) rfl]; rfl
 | c :: r, L, hs, hL => by
  obtain ⟨L, rfl⟩ : ∃ K, L = K + 1 := ⟨L - 1, by omega⟩
  have hsl := hs.len
  have hb : bat S ((S.length : Int) - (c :: r).length) = c.toNat := bat_get hs.get
  have hpos : (S.length : Int) - (c :: r).length + 1 = S.length - r.length := by rw [List.length_cons]; omega
  simp only [List.length_cons] at hsl hL
  have hlt : (S.length : Int) - (c :: r).length < S.length := by rw [List.length_cons]; omega
  have h0 : 0 ≤ (S.length : Int) - (c :: r).length := by rw [List.length_cons]; omega
  have hb1 : vRInt_b1 (b, ⟨S, p, cs, g⟩) ((S.length : Int) - (c :: r).length) = cnd (isDig c) (some (.next ((S.length : Int) - r.length))) (some (.out (.go ((S.length : Int) - (c :: r).length)))) := by
   unfold vRInt_b1
   simp only
   rw [decide_eq_true hlt, inR' h0 hlt, chk_t (p := imp true true) rfl, hb, dig_bat, hpos, chk_i64 (by omega) (by omega), Bool.true_and]
  rw [digP]
  cases hd : isDig c with
  | true =>
   rw [hd] at hb1
   exact lop_n hb1 (vRInt_lop hS r L hs.tail (by omega))
  | false =>
   rw [hd] at hb1
   exact lop_o hb1
theorem vRInt_eq {F : Nat} {S u : Str} {cs : List TApiCell} {g : Bool} (hS : S.length ≤ 100000) (h : Suf u S) (hF : S.length < F) (hcs : cs.length ≤ 100000) :
  (∃ f w, intP u = some (f, w) ∧ Suf w S ∧ vRInt F (mkq S u cs g) = some (true, mkq S w (cs ++ f.flat.map fixC) (g || f.flat.any outC))) ∨ (intP u = none ∧ ∃ q', vRInt F (mkq S u cs g) = some (false, q')) := by
 have hl := h.len
 have hneg : ∃ neg r b, neg = decide (u.head? = some 45) ∧ r = (bif neg then u.tail else u) ∧ vTake (mkq S u cs g) [45] = some (b, mkq S r cs g) ∧ u = (bif neg then 45 :: r else r) := by
  rw [vTake_eq hS h, pre1]
  cases u with
  | nil => exact ⟨false, [], false, rfl, rfl, rfl, rfl⟩
  | cons c r =>
   simp only [List.head?_cons, Option.some.injEq]
   cases hc : decide (c = 45) with
   | true => simp only [decide_eq_true_eq] at hc; subst hc; exact ⟨true, r, true, rfl, rfl, rfl, rfl⟩
   | false => exact ⟨false, c :: r, false, rfl, rfl, rfl, rfl⟩
 obtain ⟨neg, r, b, e1, e2, e3, e4⟩ := hneg
 have hr : Suf r S := by
  rw [e4] at h
  cases neg with
  | true => exact h.tail
  | false => exact h
 have hrl := hr.len
 have hd := digP_all r
 have hsplit := digP_eq r
 have hlen : r.length = (digP r).1.length + (digP r).2.length := by conv => lhs; rw [hsplit, List.length_append]
 have hw : Suf (digP r).2 S := by rw [hsplit] at hr; exact hr.app
 have hut : u = txtD neg (digP r).1 ++ (digP r).2 := by
  rw [e4]
  cases neg with
  | true => show 45 :: r = 45 :: ((digP r).1 ++ (digP r).2); rw [← hsplit]
  | false => exact hsplit
 have hul : u.length = (txtD neg (digP r).1).length + (digP r).2.length := by conv => lhs; rw [hut, List.length_append]
 have hslice : List.take (Int.toNat ((S.length : Int) - (digP r).2.length) - Int.toNat ((S.length : Int) - u.length)) (List.drop (Int.toNat ((S.length : Int) - u.length)) S) = txtD neg (digP r).1 := by
  rw [h.drop, show Int.toNat ((S.length : Int) - (digP r).2.length) - Int.toNat ((S.length : Int) - u.length) = (txtD neg (digP r).1).length from by omega]
  conv => lhs; rw [hut]
  rw [List.take_left]
 have hlop : lop (fun σ => vRInt_b1 (b, mkq S r cs g) σ) F ((S.length : Int) - r.length) = some (.go ((S.length : Int) - (digP r).2.length)) := vRInt_lop hS r F hr (by omega)
 have hrun : vRInt F (mkq S u cs g) = cnd (((decide ((parseE (txtD neg (digP r).1)) = 1)) || (decide ((S.length : Int) - r.length = (S.length : Int) - (digP r).2.length)))) (some (false, mkq S (digP r).2 cs g)) (some (true, mkq S (digP r).2 (cs ++ [⟨3, parseV (txtD neg (digP r).1), [], 0⟩]) (g || !decide (parseE (txtD neg (digP r).1) = 0)))) := by
  unfold vRInt
  rw [e3, obn_s rfl, show (b, mkq S r cs g).2.fAt = (S.length : Int) - r.length from rfl, obn_s hlop, oute_go]
  unfold vRInt_k1
  rw [show (mkq S u cs g).fAt = (S.length : Int) - u.length from rfl, show (b, mkq S r cs g).2.fS = S from rfl, show (b, mkq S r cs g).2.fAt = (S.length : Int) - r.length from rfl, chk_inC (by omega) (by omega), chk_inC (by omega) (by omega), hslice, chk_inA (by omega), chk_t (p := inA 40 _) (decide_eq_true (by
   show (cs.length + 1) * 40 ≤ 140737488355328
   omega))]
  rfl
 rw [hrun]
 unfold intP
 simp only
 rw [← e1, ← e2]
 rcases parse_txt (neg := neg) hd with ⟨p1, p2⟩ | ⟨p1, p2, p3, p4⟩ | ⟨p1, p2, p3, p4⟩
 ·rw [p1, p2]; exact .inr ⟨rfl, _, rfl⟩
 ·have hne : (digP r).1 ≠ [] := by
   intro e
   rw [e] at p1
   cases neg <;> cases p1
  have hpos : 0 < (digP r).1.length := List.length_pos_iff.2 hne
  rw [p1, p3, p4, decide_eq_false (show ¬ (S.length : Int) - r.length = (S.length : Int) - (digP r).2.length by omega)]
  refine .inl ⟨_, _, rfl, hw, ?_⟩
  simp [Fo.flat, keyC, fixC, p2, cnd]
 ·have hne : (digP r).1 ≠ [] := by
   intro e
   rw [e] at p1
   cases neg <;> cases p1
  have hpos : 0 < (digP r).1.length := List.length_pos_iff.2 hne
  rw [p1, p3, p4, decide_eq_false (show ¬ (S.length : Int) - r.length = (S.length : Int) - (digP r).2.length by omega)]
  refine .inl ⟨_, _, rfl, hw, ?_⟩
  simp [Fo.flat, keyC, fixC, p2, cnd]
def scal (strict : Bool) (s : Str) : Option (Fo × Str) :=
 match pre [110, 117, 108, 108] s with
 | some r => some (lf 1 0 [], r)
 | none => match pre [116, 114, 117, 101] s with
  | some r => some (lf 2 1 [], r)
  | none => match pre [102, 97, 108, 115, 101] s with
   | some r => some (lf 2 0 [], r)
   | none => match s with
    | [] => none
    | c :: r => bif decide (c = 34) then (match strP strict r with
     | none => none
     | some (t, u) => some (lf 4 0 t, u)) else intP (c :: r)
theorem par_scal (b : Bool) (F : Nat) {s : Str} (h : ∀ c r, s = c :: r → (decide (c = 91) || decide (c = 123)) = false) : par b (F + 1) s = scal b s := by
 rw [par_succ]
 unfold scal
 cases pre [110, 117, 108, 108] s with
 | some r => rfl
 | none =>
 cases pre [116, 114, 117, 101] s with
 | some r => rfl
 | none =>
 cases pre [102, 97, 108, 115, 101] s with
 | some r => rfl
 | none =>
 cases s with
 | nil => rfl
 | cons c r =>
  simp only
  rw [h c r rfl]; rfl
theorem vRScalar_eq {F : Nat} {S u : Str} {cs : List TApiCell} {g : Bool} (hS : S.length ≤ 100000) (h : Suf u S) (hF : S.length < F) (hcs : cs.length ≤ 100000) :
  (∃ f w, scal true u = some (f, w) ∧ Suf w S ∧ vRScalar F (mkq S u cs g) = some (true, mkq S w (cs ++ f.flat.map fixC) (g || f.flat.any outC))) ∨ (scal true u = none ∧ ∃ q', vRScalar F (mkq S u cs g) = some (false, q')) := by
 have hA : ∀ c : TApiCell, inA 40 (cs.length + ([c] : List TApiCell).length) = true := fun c => decide_eq_true (by show (cs.length + 1) * 40 ≤ 140737488355328; omega)
 unfold vRScalar scal
 rw [vTake_eq hS h]
 cases h1 : pre [110, 117, 108, 108] u with
 | some r =>
  have hr : Suf r S := by rw [pre_len h1] at h; exact h.app
  refine .inl ⟨_, r, rfl, hr, ?_⟩
  simp only
  rw [obn_s rfl, cnd_tt rfl]
  show chk (inA 40 (cs.length + ([⟨1, 0, [], 0⟩] : List TApiCell).length)) (some (true, mkq S r (cs ++ [⟨1, 0, [], 0⟩]) g)) = _
  rw [chk_t (hA _)]
  simp [lf, Fo.flat, keyC, fixC, outC]
 | none =>
 simp only
 rw [obn_s rfl, cnd_ff rfl, show (false, mkq S u cs g).2 = mkq S u cs g from rfl, vTake_eq hS h]
 cases h2 : pre [116, 114, 117, 101] u with
 | some r =>
  have hr : Suf r S := by rw [pre_len h2] at h; exact h.app
  refine .inl ⟨_, r, rfl, hr, ?_⟩
  simp only
  rw [obn_s rfl, cnd_tt rfl]
  show chk (inA 40 (cs.length + ([⟨2, 1, [], 0⟩] : List TApiCell).length)) (some (true, mkq S r (cs ++ [⟨2, 1, [], 0⟩]) g)) = _
  rw [chk_t (hA _)]
  simp [lf, Fo.flat, keyC, fixC, outC]
 | none =>
 simp only
 rw [obn_s rfl, cnd_ff rfl, show (false, mkq S u cs g).2 = mkq S u cs g from rfl, vTake_eq hS h]
 cases h3 : pre [102, 97, 108, 115, 101] u with
 | some r =>
  have hr : Suf r S := by rw [pre_len h3] at h; exact h.app
  refine .inl ⟨_, r, rfl, hr, ?_⟩
  simp only
  rw [obn_s rfl, cnd_tt rfl]
  show chk (inA 40 (cs.length + ([⟨2, 0, [], 0⟩] : List TApiCell).length)) (some (true, mkq S r (cs ++ [⟨2, 0, [], 0⟩]) g)) = _
  rw [chk_t (hA _)]
  simp [lf, Fo.flat, keyC, fixC, outC]
 | none =>
 have hl := h.len
 simp only
 rw [obn_s rfl, cnd_ff rfl, show (false, mkq S u cs g).2 = mkq S u cs g from rfl, show (mkq S u cs g).fAt = (S.length : Int) - u.length from rfl, show (mkq S u cs g).fS = S from rfl, chk_inC (by omega) (by omega), h.drop, hasPrefix_eq, obn_s rfl, pre1]
 cases u with
 | nil =>
  simp only
  rw [cnd_ff (p := (none : Option Str).isSome) rfl]
  rcases vRInt_eq (g := g) hS h hF hcs with ⟨f, w, q1, q2, q3⟩ | ⟨q1, q', q2⟩
  ·exact absurd (intP_len q1) (by simp)
  ·rw [q2]; exact .inr ⟨trivial, _, rfl⟩
 | cons c r =>
  simp only
  cases hc : decide (c = 34) with
  | true =>
   simp only [cond_true]
   rw [cnd_tt (p := (some r).isSome) rfl]
   simp only [decide_eq_true_eq] at hc
   subst hc
   rcases vRStr_eq (cs := cs) (g := g) hS h hF with ⟨r', t, w, q1, q2, q3, q4⟩ | ⟨q1, q', q2⟩
   ·cases q1
    rw [q2, q4, obn_s rfl, cnd_ff (p := !true) rfl]
    refine .inl ⟨_, w, rfl, q3, ?_⟩
    simp only
    show chk (inA 40 (cs.length + ([⟨4, 0, t, 0⟩] : List TApiCell).length)) (some (true, mkq S w (cs ++ [⟨4, 0, t, 0⟩]) g)) = _
    rw [chk_t (hA _)]
    simp [lf, Fo.flat, keyC, fixC, outC]
   ·rw [q1 r rfl, q2, obn_s rfl]
    exact .inr ⟨rfl, _, rfl⟩
  | false =>
   simp only [cond_false]
   rw [cnd_ff (p := (none : Option Str).isSome) rfl]
   rcases vRInt_eq (g := g) hS h hF hcs with ⟨f, w, q1, q2, q3⟩ | ⟨q1, q', q2⟩
   ·rw [q3, obn_s rfl]; exact .inl ⟨f, w, q1, q2, rfl⟩
   ·rw [q2, obn_s rfl]; exact .inr ⟨q1, _, rfl⟩
end Go.Proofs.YtpmiamphppcfeaaDoor

/-
 value's reader of values, told by the plain reader of bytes. Plain laws.
-/
namespace Go.Proofs.YtpmiamphppcfeaaDoor
open Go
set_option linter.unusedVariables false
set_option linter.unusedSimpArgs false
theorem put_cnt {f : Fo} (h : f.one = true) (key : Option Str) (r : Fo) : (f.put key r).cnt = r.cnt + 1 := by
 cases f with
 | nil => cases h
 | cell _ _ _ => rfl
 | node _ _ _ _ => rfl
theorem nd_flat (m : Bool) (g : Fo) (h : g.cnt = 0 → g = .nil) : (nd m g).flat = ⟨bif m then 6 else 5, 0, [], (g.cnt : Int)⟩ :: g.flat := by
 unfold nd
 cases hd : decide (g.cnt = 0) with
 | true =>
  simp only [decide_eq_true_eq] at hd
  rw [h hd]; rfl
 | false => simp [Fo.flat, keyC]
theorem cnt_nil {g : Fo} (h : g.cnt = 0) : g = .nil := by
 cases g with
 | nil => rfl
 | cell _ _ _ => simp [Fo.cnt] at h
 | node _ _ _ _ => simp [Fo.cnt] at h
theorem keyP_flat {b m : Bool} {last key : Option Str} {s u : Str} (h : keyP b m last s = some (key, u)) : (keyC key).length + u.length ≤ s.length := by
 unfold keyP at h
 cases m with
 | false => cases h; simp [keyC]
 | true =>
  simp only [cond_true] at h
  cases s with
  | nil => cases h
  | cons c r =>
   simp only at h
   cases h1 : decide (c = 34) with
   | false => rw [h1] at h; cases h
   | true =>
    rw [h1] at h
    simp only [cond_true] at h
    cases h2 : strP b r with
    | none => rw [h2] at h; cases h
    | some q =>
     obtain ⟨k, w⟩ := q
     have := strP_len b _ r k w rfl h2
     rw [h2] at h
     simp only at h
     cases h3 : (b && !keyOk true last (some k)) with
     | true => rw [h3] at h; cases h
     | false =>
      rw [h3] at h
      simp only [cond_false] at h
      cases w with
      | nil => cases h
      | cons d w' =>
       simp only at h
       cases h4 : decide (d = 58) with
       | false => rw [h4] at h; cases h
       | true => rw [h4] at h; cases h; simp only [List.length_cons, keyC, List.length_nil] at this ⊢; omega
theorem par_flat (b : Bool) : ∀ F : Nat, (∀ s f u, par b F s = some (f, u) → f.flat.length + u.length ≤ s.length) ∧ (∀ m last s g u, parL b F m last s = some (g, u) → g.flat.length + u.length + 1 ≤ s.length)
 | 0 => ⟨(fun s f u h => by rw [par.eq_def] at h; cases h), (fun m last s g u h => by rw [parL.eq_def] at h; cases h)⟩
 | F + 1 => by
  obtain ⟨ih1, ih2⟩ := par_flat b F
  have lfl : ∀ k i t, (lf k i t).flat.length = 1 := fun _ _ _ => rfl
  constructor
  ·intro s f u h
   rw [par_succ] at h
   cases h1 : pre [110, 117, 108, 108] s with
   | some r => rw [h1] at h; cases h; rw [pre_len h1, lfl]; simp; omega
   | none =>
   rw [h1] at h; simp only at h
   cases h2 : pre [116, 114, 117, 101] s with
   | some r => rw [h2] at h; cases h; rw [pre_len h2, lfl]; simp; omega
   | none =>
   rw [h2] at h; simp only at h
   cases h3 : pre [102, 97, 108, 115, 101] s with
   | some r => rw [h3] at h; cases h; rw [pre_len h3, lfl]; simp; omega
   | none =>
   rw [h3] at h; simp only at h
   cases s with
   | nil => cases h
   | cons c r =>
   simp only at h
   cases h4 : decide (c = 34) with
   | true =>
    rw [h4] at h; simp only [cond_true] at h
    cases h5 : strP b r with
    | none => rw [h5] at h; cases h
    | some q =>
     obtain ⟨t, w⟩ := q
     rw [h5] at h; cases h
     have := strP_len b _ r t u rfl h5
     rw [lfl]; simp only [List.length_cons]; omega
   | false =>
   rw [h4] at h; simp only [cond_false] at h
   cases h5 : (decide (c = 91) || decide (c = 123)) with
   | false =>
    rw [h5] at h; simp only [cond_false] at h
    have h6 := intP_len h
    have h7 : f.flat.length = 1 := by
     unfold intP at h
     simp only at h
     cases hc : canon (decide ((c :: r).head? = some 45)) (digP (bif decide ((c :: r).head? = some 45) then (c :: r).tail else c :: r)).1 with
     | false => rw [hc] at h; cases h
     | true => rw [hc] at h; cases h; rfl
    omega
   | true =>
   rw [h5] at h; simp only [cond_true] at h
   cases r with
   | nil => cases h
   | cons d r' =>
   simp only at h
   cases h6 : decide (d = closeC (decide (c = 123))) with
   | true => rw [h6] at h; cases h; rw [nd_flat _ _ cnt_nil]; simp [Fo.flat]; omega
   | false =>
   rw [h6] at h; simp only [cond_false] at h
   cases h7 : parL b F (decide (c = 123)) none (d :: r') with
   | none => rw [h7] at h; cases h
   | some q =>
    obtain ⟨g, w⟩ := q
    rw [h7] at h; cases h
    have := ih2 _ _ _ _ _ h7
    rw [nd_flat _ _ cnt_nil]
    simp only [List.length_cons] at this ⊢; omega
  ·intro m last s g u h
   rw [parL_succ] at h
   cases h1 : keyP b m last s with
   | none => rw [h1] at h; cases h
   | some q =>
   obtain ⟨key, s1⟩ := q
   have l1 := keyP_flat h1
   rw [h1] at h; simp only at h
   cases h2 : par b F s1 with
   | none => rw [h2] at h; cases h
   | some q =>
   obtain ⟨f, s2⟩ := q
   have l2 := ih1 _ _ _ h2
   have o2 := ((par_len b F).1 _ _ _ h2).2
   rw [h2] at h; simp only at h
   cases s2 with
   | nil => cases h
   | cons c s3 =>
   simp only [List.length_cons] at l2
   simp only at h
   cases h3 : decide (c = closeC m) with
   | true => rw [h3] at h; cases h; rw [put_flat o2, List.length_append, List.length_append]; simp only [Fo.flat, List.length_nil]; omega
   | false =>
   rw [h3] at h; simp only [cond_false] at h
   cases h4 : decide (c = 44) with
   | false => rw [h4] at h; cases h
   | true =>
   rw [h4] at h; simp only [cond_true] at h
   cases h5 : parL b F m key s3 with
   | none => rw [h5] at h; cases h
   | some q =>
    obtain ⟨g', w⟩ := q
    rw [h5] at h; cases h
    have := ih2 _ _ _ _ _ h5
    rw [put_flat o2, List.length_append, List.length_append]; omega
theorem set_mid {α : Type} (xs D : List α) (a b : α) : List.set (xs ++ a :: D) (Int.toNat (xs.length : Int)) b = xs ++ b :: D := by
 rw [show Int.toNat (xs.length : Int) = xs.length from by omega, List.set_append_right _ _ (Nat.le_refl _)]; simp
theorem at_mid {α : Type} [Inhabited α] (xs D : List α) (a : α) : at' (xs ++ a :: D) (xs.length : Int) = a := by simp [at']
def VOk (F P : Nat) (S u : Str) (cs : List TApiCell) (g : Bool) : Prop :=
 (∃ f w, par true P u = some (f, w) ∧ Suf w S ∧ vRValue F (mkq S u cs g) = some (true, mkq S w (cs ++ f.flat.map fixC) (g || f.flat.any outC))) ∨ (par true P u = none ∧ ∃ q', vRValue F (mkq S u cs g) = some (false, q'))
abbrev LB2 (F : Nat) (x16 : List TApiCell) : Int × Str × Int × List TApiCell × Bool → Option (Stp (Int × Str × Int × List TApiCell × Bool) (Out (Bool × TValueReader) Unit)) := fun σ => vRValue_b2 (vRValue F) x16 σ.1 σ.2.1 σ.2.2.1 σ.2.2.2.1 σ.2.2.2.2
abbrev LB3 (F : Nat) (x16 : List TApiCell) : Str × Int × Str × Int × List TApiCell × Bool → Option (Stp (Str × Int × Str × Int × List TApiCell × Bool) (Out (Bool × TValueReader) Unit)) := fun σ => vRValue_b3 F (vRValue F) x16 σ.1 σ.2.1 σ.2.2.1 σ.2.2.2.1 σ.2.2.2.2.1 σ.2.2.2.2.2
def LOk (P : Nat) (m : Bool) (last : Option Str) (S u : Str) (x16 D : List TApiCell) (k : Int) (g : Bool) (o : Out (Bool × TValueReader) Unit) : Prop :=
 (∃ G w, parL true P m last u = some (G, w) ∧ Suf w S ∧ o = .ret (true, mkq S w (x16 ++ ⟨bif m then 6 else 5, 0, [], k - 1 + (G.cnt : Int)⟩ :: (D ++ G.flat.map fixC)) (g || G.flat.any outC))) ∨ (parL true P m last u = none ∧ ∃ q', o = .ret (false, q'))
theorem fix_key (k : Option Str) : (keyC k).map fixC = keyC k ∧ (keyC k).any outC = false := by
 cases k with
 | none => exact ⟨rfl, rfl⟩
 | some s => exact ⟨by simp [keyC, fixC, outC], by simp [keyC, outC]⟩
theorem LOk.join {P : Nat} {m : Bool} {last key : Option Str} {S u s1 s2 : Str} {x16 D : List TApiCell} {k : Int} {g : Bool} {o : Out (Bool × TValueReader) Unit} {f : Fo} (hk : keyP true m last u = some (key, s1)) (hf : par true P s1 = some (f, s2)) (ho : f.one = true)
  (h : (∃ s3, s2 = closeC m :: s3 ∧ Suf s3 S ∧ o = .ret (true, mkq S s3 (x16 ++ ⟨bif m then 6 else 5, 0, [], k⟩ :: (D ++ (keyC key ++ f.flat.map fixC))) (g || f.flat.any outC))) ∨ (∃ s3, s2 = 44 :: s3 ∧ LOk P m key S s3 x16 (D ++ (keyC key ++ f.flat.map fixC)) (k + 1) (g || f.flat.any outC) o) ∨ ((∀ c s3, s2 = c :: s3 → decide (c = closeC m) = false ∧ decide (c = 44) = false) ∧ ∃ q', o = .ret (false, q'))) : LOk (P + 1) m last S u x16 D k g o := by
 obtain ⟨fk1, fk2⟩ := fix_key key
 unfold LOk
 rw [parL_succ, hk]
 simp only [hf]
 have h44 : decide ((44 : UInt8) = closeC m) = false := by cases m <;> rfl
 rcases h with ⟨s3, rfl, h1, h2⟩ | ⟨s3, rfl, h⟩ | ⟨h1, h2⟩
 ·simp only [decide_true, cond_true]
  refine .inl ⟨_, s3, rfl, h1, ?_⟩
  rw [h2, put_cnt ho, put_flat ho]
  simp only [Fo.flat, Fo.cnt, List.append_nil, List.map_append, List.any_append, fk1, fk2, Bool.false_or]
  congr 6
  omega
 ·simp only [h44, cond_false, decide_true, cond_true]
  rcases h with ⟨G, w, q1, q2, q3⟩ | ⟨q1, q2⟩
  ·rw [q1]
   refine .inl ⟨_, w, rfl, q2, ?_⟩
   rw [q3, put_cnt ho, put_flat ho]
   simp only [List.map_append, List.any_append, fk1, fk2, Bool.false_or, Bool.or_assoc, List.append_assoc]
   congr 6
   omega
  ·rw [q1]; exact .inr ⟨rfl, q2⟩
 ·refine .inr ⟨?_, h2⟩
  cases s2 with
  | nil => rfl
  | cons c s3 =>
   obtain ⟨a, b⟩ := h1 c s3 rfl
   simp only [a, b, cond_false]
end Go.Proofs.YtpmiamphppcfeaaDoor

/-
 value's reader of values does what the plain reader of bytes does. Plain laws.
-/
namespace Go.Proofs.YtpmiamphppcfeaaDoor
open Go
set_option linter.unusedVariables false
set_option linter.unusedSimpArgs false
theorem mkq_eta (S u : Str) (cs : List TApiCell) (g : Bool) : TValueReader.mk S ((S.length : Int) - u.length) cs g = mkq S u cs g := rfl
theorem oute_k2 {o : Out (Bool × TValueReader) Unit} {r : Bool × TValueReader} {K : Unit → Option (Bool × TValueReader)} (h : o = .ret r) : oute K o = some r := by rw [h]; rfl
theorem chk_A40 {α : Type} {n : Nat} {x : Option α} (h : n ≤ 1000000) : chk (inA 40 n) x = x := chk_t (decide_eq_true (by omega))
theorem list_round {F P : Nat} {S u : Str} {x16 D : List TApiCell} {k : Int} {g : Bool} (hS : S.length ≤ 100000) (hs : Suf u S) (hk1 : 1 ≤ k) (hk2 : k ≤ 200000) (hV : VOk F P S u (x16 ++ ⟨5, 0, [], k - 1⟩ :: D) g) :
  (∃ q', LB2 F x16 (k, S, (S.length : Int) - u.length, x16 ++ ⟨5, 0, [], k - 1⟩ :: D, g) = some (.out (.ret (false, q'))) ∧ (par true P u = none ∨ ∃ f s2, par true P u = some (f, s2) ∧ ∀ c s3, s2 = c :: s3 → decide (c = closeC false) = false ∧ decide (c = 44) = false)) ∨
  ∃ f s2, par true P u = some (f, s2) ∧ Suf s2 S ∧ ((∃ s3, s2 = closeC false :: s3 ∧ LB2 F x16 (k, S, (S.length : Int) - u.length, x16 ++ ⟨5, 0, [], k - 1⟩ :: D, g) = some (.out (.ret (true, mkq S s3 (x16 ++ ⟨5, 0, [], k⟩ :: (D ++ f.flat.map fixC)) (g || f.flat.any outC))))) ∨
   (∃ s3, s2 = 44 :: s3 ∧ LB2 F x16 (k, S, (S.length : Int) - u.length, x16 ++ ⟨5, 0, [], k - 1⟩ :: D, g) = some (.next (k + 1, S, (S.length : Int) - s3.length, x16 ++ ⟨5, 0, [], k⟩ :: (D ++ f.flat.map fixC), g || f.flat.any outC)))) := by
 have hb : LB2 F x16 (k, S, (S.length : Int) - u.length, x16 ++ ⟨5, 0, [], k - 1⟩ :: D, g) = vRValue_b2 (vRValue F) x16 k S ((S.length : Int) - u.length) (x16 ++ ⟨5, 0, [], k - 1⟩ :: D) g := rfl
 rw [hb]
 unfold vRValue_b2
 rw [mkq_eta]
 rcases hV with ⟨f, s2, q1, q2, q3⟩ | ⟨q1, q', q2⟩
 ·have ec : (x16 ++ ⟨5, 0, [], k - 1⟩ :: D) ++ f.flat.map fixC = x16 ++ ⟨5, 0, [], k - 1⟩ :: (D ++ f.flat.map fixC) := by simp
  rw [ec] at q3
  rw [q3, obn_s rfl, cnd_ff (p := !true) rfl]
  have hin : inR (x16.length : Int) (((x16 ++ (⟨5, 0, [], k - 1⟩ : TApiCell) :: (D ++ f.flat.map fixC)).length : Nat) : Int) = true := inR' (by omega) (by rw [List.length_append, List.length_cons]; omega)
  have e1 : (true, mkq S s2 (x16 ++ ⟨5, 0, [], k - 1⟩ :: (D ++ f.flat.map fixC)) (g || f.flat.any outC)).2.fCells = x16 ++ ⟨5, 0, [], k - 1⟩ :: (D ++ f.flat.map fixC) := rfl
  rw [e1, chk_t hin, at_mid, set_mid, bnd_s]
  have e2 : TValueReader.mk (true, mkq S s2 (x16 ++ ⟨5, 0, [], k - 1⟩ :: (D ++ f.flat.map fixC)) (g || f.flat.any outC)).2.fS (true, mkq S s2 (x16 ++ ⟨5, 0, [], k - 1⟩ :: (D ++ f.flat.map fixC)) (g || f.flat.any outC)).2.fAt (x16 ++ ⟨5, 0, [], k⟩ :: (D ++ f.flat.map fixC)) (true, mkq S s2 (x16 ++ ⟨5, 0, [], k - 1⟩ :: (D ++ f.flat.map fixC)) (g || f.flat.any outC)).2.fGreat = mkq S s2 (x16 ++ ⟨5, 0, [], k⟩ :: (D ++ f.flat.map fixC)) (g || f.flat.any outC) := rfl
  rw [e2, vTake_eq hS q2, pre1]
  cases s2 with
  | nil =>
   simp only
   rw [obn_s rfl, cnd_ff rfl, vTake_eq hS q2, pre1]
   exact .inl ⟨_, rfl, .inr ⟨f, [], q1, fun c s3 e => by cases e⟩⟩
  | cons c s3 =>
   simp only
   cases h93 : decide (c = 93) with
   | true =>
    simp only [decide_eq_true_eq] at h93
    subst h93
    exact .inr ⟨f, _, q1, q2, .inl ⟨s3, rfl, rfl⟩⟩
   | false =>
    simp only [cond_false]
    rw [obn_s rfl, cnd_ff rfl, vTake_eq hS q2, pre1]
    simp only
    cases h44 : decide (c = 44) with
    | true =>
     simp only [decide_eq_true_eq] at h44
     subst h44
     simp only [cond_true]
     rw [obn_s rfl, cnd_ff (p := !true) rfl, chk_i64 (by omega) (by omega)]
     exact .inr ⟨f, _, q1, q2, .inr ⟨s3, rfl, rfl⟩⟩
    | false =>
     exact .inl ⟨_, rfl, .inr ⟨f, _, q1, fun c' s3' e => by cases e; exact ⟨h93, h44⟩⟩⟩
 ·rw [q2, obn_s rfl]
  exact .inl ⟨q', rfl, .inl q1⟩
theorem map_tail {F P : Nat} {S u : Str} {x16 D : List TApiCell} {k : Int} {g b1 b2 : Bool} {r : Str × Bool × TValueReader} (hS : S.length ≤ 100000) (hs : Suf u S) (hk1 : 1 ≤ k) (hk2 : k ≤ 200000) (hD : x16.length + D.length ≤ 200000) (hV : VOk F P S u (x16 ++ ⟨6, 0, [], k - 1⟩ :: (D ++ [⟨4, 0, r.1, 0⟩])) g) :
  (∃ q', vRValue_j4 (vRValue F) x16 k r b1 b2 false S ((S.length : Int) - u.length) (x16 ++ ⟨6, 0, [], k - 1⟩ :: D) g = some (.out (.ret (false, q'))) ∧ (par true P u = none ∨ ∃ f s2, par true P u = some (f, s2) ∧ ∀ c s3, s2 = c :: s3 → decide (c = closeC true) = false ∧ decide (c = 44) = false)) ∨
  ∃ f s2, par true P u = some (f, s2) ∧ Suf s2 S ∧ ((∃ s3, s2 = closeC true :: s3 ∧ vRValue_j4 (vRValue F) x16 k r b1 b2 false S ((S.length : Int) - u.length) (x16 ++ ⟨6, 0, [], k - 1⟩ :: D) g = some (.out (.ret (true, mkq S s3 (x16 ++ ⟨6, 0, [], k⟩ :: (D ++ ([⟨4, 0, r.1, 0⟩] ++ f.flat.map fixC))) (g || f.flat.any outC))))) ∨
   (∃ s3, s2 = 44 :: s3 ∧ vRValue_j4 (vRValue F) x16 k r b1 b2 false S ((S.length : Int) - u.length) (x16 ++ ⟨6, 0, [], k - 1⟩ :: D) g = some (.next (r.1, k + 1, S, (S.length : Int) - s3.length, x16 ++ ⟨6, 0, [], k⟩ :: (D ++ ([⟨4, 0, r.1, 0⟩] ++ f.flat.map fixC)), g || f.flat.any outC)))) := by
 unfold vRValue_j4
 have e0 : (x16 ++ ⟨6, 0, [], k - 1⟩ :: D) ++ ([⟨4, 0, r.1, 0⟩] : List TApiCell) = x16 ++ ⟨6, 0, [], k - 1⟩ :: (D ++ [⟨4, 0, r.1, 0⟩]) := by simp
 rw [cnd_ff rfl, chk_A40 (by rw [List.length_append, List.length_cons, List.length_singleton]; omega), e0, mkq_eta]
 rcases hV with ⟨f, s2, q1, q2, q3⟩ | ⟨q1, q', q2⟩
 ·have ec : (x16 ++ ⟨6, 0, [], k - 1⟩ :: (D ++ [⟨4, 0, r.1, 0⟩])) ++ f.flat.map fixC = x16 ++ ⟨6, 0, [], k - 1⟩ :: (D ++ ([⟨4, 0, r.1, 0⟩] ++ f.flat.map fixC)) := by simp
  rw [ec] at q3
  rw [q3, obn_s rfl, cnd_ff (p := !true) rfl]
  have hin : inR (x16.length : Int) (((x16 ++ (⟨6, 0, [], k - 1⟩ : TApiCell) :: (D ++ ([⟨4, 0, r.1, 0⟩] ++ f.flat.map fixC))).length : Nat) : Int) = true := inR' (by omega) (by rw [List.length_append, List.length_cons]; omega)
  have e1 : (true, mkq S s2 (x16 ++ ⟨6, 0, [], k - 1⟩ :: (D ++ ([⟨4, 0, r.1, 0⟩] ++ f.flat.map fixC))) (g || f.flat.any outC)).2.fCells = x16 ++ ⟨6, 0, [], k - 1⟩ :: (D ++ ([⟨4, 0, r.1, 0⟩] ++ f.flat.map fixC)) := rfl
  rw [e1, chk_t hin, at_mid, set_mid, bnd_s]
  have e2 : TValueReader.mk (true, mkq S s2 (x16 ++ ⟨6, 0, [], k - 1⟩ :: (D ++ ([⟨4, 0, r.1, 0⟩] ++ f.flat.map fixC))) (g || f.flat.any outC)).2.fS (true, mkq S s2 (x16 ++ ⟨6, 0, [], k - 1⟩ :: (D ++ ([⟨4, 0, r.1, 0⟩] ++ f.flat.map fixC))) (g || f.flat.any outC)).2.fAt (x16 ++ ⟨6, 0, [], k⟩ :: (D ++ ([⟨4, 0, r.1, 0⟩] ++ f.flat.map fixC))) (true, mkq S s2 (x16 ++ ⟨6, 0, [], k - 1⟩ :: (D ++ ([⟨4, 0, r.1, 0⟩] ++ f.flat.map fixC))) (g || f.flat.any outC)).2.fGreat = mkq S s2 (x16 ++ ⟨6, 0, [], k⟩ :: (D ++ ([⟨4, 0, r.1, 0⟩] ++ f.flat.map fixC))) (g || f.flat.any outC) := rfl
  rw [e2, vTake_eq hS q2, pre1]
  cases s2 with
  | nil =>
   simp only
   rw [obn_s rfl, cnd_ff rfl, vTake_eq hS q2, pre1]
   exact .inl ⟨_, rfl, .inr ⟨f, [], q1, fun c s3 e => by cases e⟩⟩
  | cons c s3 =>
   simp only
   cases h93 : decide (c = 125) with
   | true =>
    simp only [decide_eq_true_eq] at h93
    subst h93
    exact .inr ⟨f, _, q1, q2, .inl ⟨s3, rfl, rfl⟩⟩
   | false =>
    simp only [cond_false]
    rw [obn_s rfl, cnd_ff rfl, vTake_eq hS q2, pre1]
    simp only
    cases h44 : decide (c = 44) with
    | true =>
     simp only [decide_eq_true_eq] at h44
     subst h44
     simp only [cond_true]
     rw [obn_s rfl, cnd_ff (p := !true) rfl, chk_i64 (by omega) (by omega)]
     exact .inr ⟨f, _, q1, q2, .inr ⟨s3, rfl, rfl⟩⟩
    | false =>
     exact .inl ⟨_, rfl, .inr ⟨f, _, q1, fun c' s3' e => by cases e; exact ⟨h93, h44⟩⟩⟩
 ·rw [q2, obn_s rfl]
  exact .inl ⟨q', rfl, .inl q1⟩
def colP (t : Str) : Str → Option (Option Str × Str)
 | [] => none
 | d :: u' => bif decide (d = 58) then some (some t, u') else none
theorem keyP_34 (b : Bool) (last : Option Str) (r : Str) : keyP b true last (34 :: r) = match strP b r with
  | none => none
  | some (k, u) => bif b && !keyOk true last (some k) then none else colP k u := by
 show (match strP b r with
   | none => none
   | some (k, u) => bif b && !keyOk true last (some k) then none else (match u with
    | [] => none
    | d :: u' => bif decide (d = 58) then some (some k, u') else none)) = _
 cases strP b r with
 | none => rfl
 | some q => obtain ⟨k, u⟩ := q; cases u <;> rfl
theorem keyP_no (b : Bool) (last : Option Str) {u : Str} (h : ∀ r, u = 34 :: r → strP b r = none) : keyP b true last u = none := by
 cases u with
 | nil => rfl
 | cons c r =>
  by_cases hc : c = 34
  ·subst hc
   rw [keyP_34, h r rfl]
  ·show (bif decide (c = 34) then _ else none) = none
   rw [decide_eq_false hc]; rfl
theorem map_colon {F : Nat} {S w t : Str} {x16 cs : List TApiCell} {k : Int} {g : Bool} (b1 b2 : Bool) (hS : S.length ≤ 100000) (hw : Suf w S) :
  (∃ q', obn (vTake (t, true, mkq S w cs g).2.2 ([58] : Str)) (fun r489 => vRValue_j4 (vRValue F) x16 k (t, true, mkq S w cs g) b1 b2 (!r489.1) r489.2.fS r489.2.fAt r489.2.fCells r489.2.fGreat) = some (.out (.ret (false, q'))) ∧ colP t w = none) ∨
  ∃ s1, w = 58 :: s1 ∧ colP t w = some (some t, s1) ∧ obn (vTake (t, true, mkq S w cs g).2.2 ([58] : Str)) (fun r489 => vRValue_j4 (vRValue F) x16 k (t, true, mkq S w cs g) b1 b2 (!r489.1) r489.2.fS r489.2.fAt r489.2.fCells r489.2.fGreat) = vRValue_j4 (vRValue F) x16 k (t, true, mkq S w cs g) b1 b2 false S ((S.length : Int) - s1.length) cs g := by
 rw [show (t, true, mkq S w cs g).2.2 = mkq S w cs g from rfl, vTake_eq hS hw, pre1]
 cases w with
 | nil => exact .inl ⟨_, rfl, rfl⟩
 | cons d s1 =>
  by_cases hd : d = 58
  ·subst hd; exact .inr ⟨s1, rfl, rfl, rfl⟩
  ·simp only [decide_eq_false hd, cond_false]
   refine .inl ⟨_, rfl, ?_⟩
   show (bif decide (d = 58) then _ else none) = none
   rw [decide_eq_false hd]; rfl
theorem map_key {F : Nat} {S u last : Str} {x16 cs : List TApiCell} {k : Int} {g : Bool} (hS : S.length ≤ 100000) (hs : Suf u S) (hF : S.length < F) :
  (keyP true true (bif decide (1 < k) then some last else none) u = none ∧ ∃ q', LB3 F x16 (last, k, S, (S.length : Int) - u.length, cs, g) = some (.out (.ret (false, q')))) ∨
  ∃ t s1 b1 b2 q0, keyP true true (bif decide (1 < k) then some last else none) u = some (some t, s1) ∧ Suf s1 S ∧ s1.length + 2 ≤ u.length ∧ LB3 F x16 (last, k, S, (S.length : Int) - u.length, cs, g) = vRValue_j4 (vRValue F) x16 k (t, true, q0) b1 b2 false S ((S.length : Int) - s1.length) cs g := by
 have hb : LB3 F x16 (last, k, S, (S.length : Int) - u.length, cs, g) = vRValue_b3 F (vRValue F) x16 last k S ((S.length : Int) - u.length) cs g := rfl
 rw [hb]
 unfold vRValue_b3
 rw [mkq_eta]
 rcases vRStr_eq (cs := cs) (g := g) hS hs hF with ⟨r, t, w, q1, q2, q3, q4⟩ | ⟨q1, q', q2⟩
 ·rw [q4, obn_s rfl, cnd_ff (p := !true) rfl]
  subst q1
  have hok := strP_ok _ r t w rfl q2
  have hwl := strP_len true _ r t w rfl q2
  rw [keyP_34, q2]
  simp only [Bool.true_and]
  cases h1 : decide (1 < k) with
  | true =>
   rw [cnd_tt rfl]
   simp only [cond_true]
   have hko : keyOk true (some last) (some t) = !(sLess t last || decide (t = last)) := by simp [keyOk, hok]
   rw [hko, Bool.not_not]
   cases hlt : (sLess t last || decide (t = last)) with
   | true =>
    rw [cnd_tt rfl]
    exact .inl ⟨rfl, _, rfl⟩
   | false =>
    rw [cnd_ff rfl]
    simp only [cond_false]
    rcases map_colon (F := F) (cs := cs) (g := g) (x16 := x16) (k := k) (t := t) false false hS q3 with ⟨q', c1, c2⟩ | ⟨s1, c1, c2, c3⟩
    ·exact .inl ⟨c2, q', c1⟩
    ·subst c1
     exact .inr ⟨t, s1, false, false, mkq S (58 :: s1) cs g, c2, q3.tail, by simp only [List.length_cons] at hwl ⊢; omega, c3⟩
  | false =>
   rw [cnd_ff rfl]
   simp only [cond_false]
   have hko : keyOk true none (some t) = true := by simp [keyOk, hok]
   rw [hko]
   simp only [Bool.not_true, cond_false]
   rcases map_colon (F := F) (cs := cs) (g := g) (x16 := x16) (k := k) (t := t) false false hS q3 with ⟨q', c1, c2⟩ | ⟨s1, c1, c2, c3⟩
   ·exact .inl ⟨c2, q', c1⟩
   ·subst c1
    exact .inr ⟨t, s1, false, false, mkq S (58 :: s1) cs g, c2, q3.tail, by simp only [List.length_cons] at hwl ⊢; omega, c3⟩
 ·rw [q2, obn_s rfl]
  exact .inl ⟨keyP_no _ _ q1, _, rfl⟩
def brkP (b : Bool) (F : Nat) (m : Bool) : Str → Option (Fo × Str)
 | [] => none
 | d :: r' => bif decide (d = closeC m) then some (nd m .nil, r') else (match parL b F m none (d :: r') with
  | none => none
  | some (g, u) => some (nd m g, u))
theorem brkP_cons (b : Bool) (F : Nat) (m : Bool) (d : UInt8) (r' : Str) : brkP b F m (d :: r') = bif decide (d = closeC m) then some (nd m .nil, r') else (match parL b F m none (d :: r') with
  | none => none
  | some (g, u) => some (nd m g, u)) := rfl
theorem par_91 (b : Bool) (F : Nat) (r : Str) (m : Bool) : par b (F + 1) ((bif m then 123 else 91) :: r) = brkP b F m r := by
 rw [par_succ]
 cases m <;> cases r <;> rfl
theorem list_all {S : Str} (hS : S.length ≤ 100000) : ∀ n : Nat,
  (∀ (F P : Nat) (u : Str) (cs : List TApiCell) (g : Bool), u.length = n → Suf u S → S.length + n + 5 < F → 2 * n + 2 ≤ P → cs.length + n ≤ S.length → VOk F P S u cs g) ∧
  (∀ (F P L : Nat) (u : Str) (x16 D : List TApiCell) (k : Int) (g : Bool), u.length = n → Suf u S → S.length + n + 5 < F → 2 * n + 3 ≤ P → n < L → x16.length + 1 + D.length + n ≤ S.length → 1 ≤ k → k + n ≤ S.length + 1 → ∃ o, lop (LB2 F x16) L (k, S, (S.length : Int) - u.length, x16 ++ ⟨5, 0, [], k - 1⟩ :: D, g) = some o ∧ LOk P false none S u x16 D k g o) ∧
  (∀ (F P L : Nat) (u last : Str) (x16 D : List TApiCell) (k : Int) (g : Bool), u.length = n → Suf u S → S.length + n + 5 < F → 2 * n + 3 ≤ P → n < L → x16.length + 1 + D.length + n ≤ S.length → 1 ≤ k → k + n ≤ S.length + 1 → ∃ o, lop (LB3 F x16) L (last, k, S, (S.length : Int) - u.length, x16 ++ ⟨6, 0, [], k - 1⟩ :: D, g) = some o ∧ LOk P true (bif decide (1 < k) then some last else none) S u x16 D k g o) := by
 intro n
 induction n using Nat.strongRecOn with
 | ind n ih =>
 have hV : ∀ (F P : Nat) (u : Str) (cs : List TApiCell) (g : Bool), u.length = n → Suf u S → S.length + n + 5 < F → 2 * n + 2 ≤ P → cs.length + n ≤ S.length → VOk F P S u cs g := by
  intro F P u cs g hn hs hF hP hcs
  obtain ⟨F, rfl⟩ : ∃ K, F = K + 1 := ⟨F - 1, by omega⟩
  obtain ⟨P, rfl⟩ : ∃ K, P = K + 1 := ⟨P - 1, by omega⟩
  unfold VOk
  rw [vRValue]
  unfold vRValuem
  rw [vTake_eq hS hs, pre1]
  -- not a bracket
  have hsc : (∀ c r, u = c :: r → (decide (c = 91) || decide (c = 123)) = false) → ∀ r1 : Bool × TValueReader, (∃ f w, par true (P + 1) u = some (f, w) ∧ Suf w S ∧ vRValue_j1 F (vRValue F) r1 true S ((S.length : Int) - u.length) cs g = some (true, mkq S w (cs ++ f.flat.map fixC) (g || f.flat.any outC))) ∨ (par true (P + 1) u = none ∧ ∃ q', vRValue_j1 F (vRValue F) r1 true S ((S.length : Int) - u.length) cs g = some (false, q')) := fun hc r1 => by
   rw [par_scal true P hc]
   unfold vRValue_j1
   rw [cnd_tt rfl, mkq_eta]
   rcases vRScalar_eq (F := F) (cs := cs) (g := g) hS hs (by omega) (by omega) with ⟨f, w, q1, q2, q3⟩ | ⟨q1, q', q2⟩
   ·rw [q3, obn_s rfl]; exact .inl ⟨f, w, q1, q2, rfl⟩
   ·rw [q2, obn_s rfl]; exact .inr ⟨q1, q', rfl⟩
  have hsl := hs.len
  cases u with
  | nil =>
   simp only
   rw [obn_s rfl, cnd_tt (p := !false) rfl, show (false, mkq S [] cs g).2 = mkq S [] cs g from rfl, vTake_eq hS hs, pre1, obn_s rfl]
   exact hsc (fun c r e => by cases e) _
  | cons c r =>
   simp only [List.length_cons] at hn hsl
   simp only
   -- inside brackets
   have hbr : ∀ m : Bool, c = (bif m then 123 else 91) → ∀ body : Option (Bool × TValueReader), body = (chk (inA 40 (cs.length + ([⟨bif m then 6 else 5, 0, [], 0⟩] : List TApiCell).length)) <| obn (vTake (mkq S r (cs ++ [⟨bif m then 6 else 5, 0, [], 0⟩]) g) ([closeC m] : Str)) fun r40 => cnd r40.1 (some (true, r40.2)) (bif m then obn (lop (LB3 F cs) F ([], 1, r40.2.fS, r40.2.fAt, r40.2.fCells, r40.2.fGreat)) (oute fun _ => vRValue_k3) else obn (lop (LB2 F cs) F (1, r40.2.fS, r40.2.fAt, r40.2.fCells, r40.2.fGreat)) (oute fun _ => vRValue_k2))) →
     (∃ f w, par true (P + 1) (c :: r) = some (f, w) ∧ Suf w S ∧ body = some (true, mkq S w (cs ++ f.flat.map fixC) (g || f.flat.any outC))) ∨ (par true (P + 1) (c :: r) = none ∧ ∃ q', body = some (false, q')) := fun m hc body hbody => by
    rw [hbody, hc, par_91, chk_A40 (by rw [List.length_singleton]; omega), vTake_eq hS hs.tail, pre1]
    have hfh : fixC ⟨bif m then 6 else 5, 0, [], 0⟩ = ⟨bif m then 6 else 5, 0, [], 0⟩ ∧ ∀ N, outC ⟨bif m then 6 else 5, 0, [], N⟩ = false := by cases m <;> exact ⟨rfl, fun _ => rfl⟩
    have hfn : ∀ N, fixC ⟨bif m then 6 else 5, 0, [], N⟩ = ⟨bif m then 6 else 5, 0, [], N⟩ := fun N => by cases m <;> rfl
    -- the loop
    have hloop : ∀ o : Out (Bool × TValueReader) Unit, LOk P m none S r cs [] 1 g o → (r = [] ∨ ∃ d r', r = d :: r' ∧ decide (d = closeC m) = false) →
      (∃ f w, brkP true P m r = some (f, w) ∧ Suf w S ∧ o = .ret (true, mkq S w (cs ++ f.flat.map fixC) (g || f.flat.any outC))) ∨ (brkP true P m r = (none : Option (Fo × Str)) ∧ ∃ q', o = .ret (false, q')) := fun o ho hr => by
     rcases hr with rfl | ⟨d, r', rfl, hd⟩
     ·rcases ho with ⟨G, w, q1, _, _⟩ | ⟨_, q2⟩
      ·exact absurd ((par_len true P).2 _ _ _ _ _ q1).1 (by simp)
      ·exact .inr ⟨rfl, q2⟩
     ·rw [brkP_cons, hd]
      simp only [cond_false]
      rcases ho with ⟨G, w, q1, q2, q3⟩ | ⟨q1, q2⟩
      ·rw [q1]
       refine .inl ⟨_, w, rfl, q2, ?_⟩
       rw [q3, nd_flat _ _ cnt_nil, List.map_cons, List.any_cons, hfn, hfh.2, Bool.false_or, List.nil_append, show (1 : Int) - 1 + (G.cnt : Int) = G.cnt from by omega]
      ·rw [q1]; exact .inr ⟨rfl, q2⟩
    have hrest : (r = [] ∨ ∃ d r', r = d :: r' ∧ decide (d = closeC m) = false) → (∃ f w, brkP true P m r = some (f, w) ∧ Suf w S ∧ (bif m then obn (lop (LB3 F cs) F ([], 1, S, (S.length : Int) - r.length, cs ++ [⟨bif m then 6 else 5, 0, [], 0⟩], g)) (oute fun _ => vRValue_k3) else obn (lop (LB2 F cs) F (1, S, (S.length : Int) - r.length, cs ++ [⟨bif m then 6 else 5, 0, [], 0⟩], g)) (oute fun _ => vRValue_k2)) = some (true, mkq S w (cs ++ f.flat.map fixC) (g || f.flat.any outC))) ∨ (brkP true P m r = (none : Option (Fo × Str)) ∧ ∃ q', (bif m then obn (lop (LB3 F cs) F ([], 1, S, (S.length : Int) - r.length, cs ++ [⟨bif m then 6 else 5, 0, [], 0⟩], g)) (oute fun _ => vRValue_k3) else obn (lop (LB2 F cs) F (1, S, (S.length : Int) - r.length, cs ++ [⟨bif m then 6 else 5, 0, [], 0⟩], g)) (oute fun _ => vRValue_k2)) = some (false, q')) := fun hr => by
     cases m with
     | true =>
      obtain ⟨o, ho1, ho2⟩ := (ih r.length (by omega)).2.2 F P F r [] cs [] 1 g rfl hs.tail (by omega) (by omega) (by omega) (by simp; omega) (by decide) (by omega)
      simp only [cond_true]
      have ho1' : lop (LB3 F cs) F ([], 1, S, (S.length : Int) - r.length, cs ++ [⟨6, 0, [], 0⟩], g) = some o := ho1
      rw [obn_s ho1']
      rcases hloop o ho2 hr with ⟨f, w, q1, q2, q3⟩ | ⟨q1, q', q2⟩
      ·exact .inl ⟨f, w, q1, q2, oute_k2 q3⟩
      ·exact .inr ⟨q1, q', oute_k2 q2⟩
     | false =>
      obtain ⟨o, ho1, ho2⟩ := (ih r.length (by omega)).2.1 F P F r cs [] 1 g rfl hs.tail (by omega) (by omega) (by omega) (by simp; omega) (by decide) (by omega)
      simp only [cond_false]
      have ho1' : lop (LB2 F cs) F (1, S, (S.length : Int) - r.length, cs ++ [⟨5, 0, [], 0⟩], g) = some o := ho1
      rw [obn_s ho1']
      rcases hloop o ho2 hr with ⟨f, w, q1, q2, q3⟩ | ⟨q1, q', q2⟩
      ·exact .inl ⟨f, w, q1, q2, oute_k2 q3⟩
      ·exact .inr ⟨q1, q', oute_k2 q2⟩
    cases r with
    | nil =>
     simp only
     rw [obn_s rfl, cnd_ff rfl]
     exact hrest (.inl rfl)
    | cons d r' =>
     simp only
     cases hd : decide (d = closeC m) with
     | true =>
      simp only [cond_true]
      rw [obn_s rfl, cnd_tt rfl]
      refine .inl ⟨_, r', by rw [brkP_cons, hd]; rfl, hs.tail.tail, ?_⟩
      rw [nd_flat _ _ cnt_nil]
      simp only [Fo.flat, Fo.cnt, List.map_cons, List.map_nil, List.any_cons, List.any_nil, Bool.or_false]
      rw [show ((0 : Nat) : Int) = 0 from rfl, hfh.1, hfh.2, Bool.or_false]
     | false =>
      simp only [cond_false]
      rw [obn_s rfl, cnd_ff rfl]
      exact hrest (.inr ⟨d, r', rfl, hd⟩)
   cases h91 : decide (c = 91) with
   | true =>
    simp only [decide_eq_true_eq] at h91
    simp only [cond_true]
    rw [obn_s rfl, cnd_ff (p := !true) rfl]
    exact hbr false h91 _ rfl
   | false =>
    simp only [cond_false]
    rw [obn_s rfl, cnd_tt (p := !false) rfl, show (false, mkq S (c :: r) cs g).2 = mkq S (c :: r) cs g from rfl, vTake_eq hS hs, pre1]
    simp only
    cases h123 : decide (c = 123) with
    | true =>
     simp only [decide_eq_true_eq] at h123
     simp only [cond_true]
     rw [obn_s rfl]
     exact hbr true h123 _ rfl
    | false =>
     simp only [cond_false]
     rw [obn_s rfl]
     exact hsc (fun c' r' e => by cases e; rw [h91, h123]; rfl) _
 refine ⟨hV, ?_, ?_⟩
 ·intro F P L u x16 D k g hn hs hF hP hL hb hk1 hk2
  obtain ⟨P, rfl⟩ : ∃ K, P = K + 1 := ⟨P - 1, by omega⟩
  obtain ⟨L, rfl⟩ : ∃ K, L = K + 1 := ⟨L - 1, by omega⟩
  have hsl := hs.len
  have hv := hV F P u (x16 ++ ⟨5, 0, [], k - 1⟩ :: D) g hn hs hF (by omega) (by simp; omega)
  have hkp : keyP true false none u = some (none, u) := rfl
  rcases list_round hS hs hk1 (by omega) hv with ⟨q', hb1, hf⟩ | ⟨f, s2, q1, q2, h⟩
  ·refine ⟨_, lop_o hb1, ?_⟩
   rcases hf with hf | ⟨f, s2, hf, hno⟩
   ·refine .inr ⟨?_, q', rfl⟩
    rw [parL_succ, hkp]
    simp only [hf]
   ·exact LOk.join hkp hf ((par_len true P).1 _ _ _ hf).2 (.inr (.inr ⟨hno, q', rfl⟩))
  ·obtain ⟨l1, ho⟩ := (par_len true P).1 _ _ _ q1
   have l2 := (par_flat true P).1 _ _ _ q1
   rcases h with ⟨s3, e, hb1⟩ | ⟨s3, e, hb1⟩
   ·subst e
    exact ⟨_, lop_o hb1, LOk.join hkp q1 ho (.inl ⟨s3, rfl, q2.tail, rfl⟩)⟩
   ·subst e
    simp only [List.length_cons] at l1 l2
    obtain ⟨o, ho1, ho2⟩ := (ih s3.length (by omega)).2.1 F P L s3 x16 (D ++ f.flat.map fixC) (k + 1) (g || f.flat.any outC) rfl q2.tail (by omega) (by omega) (by omega) (by rw [List.length_append, List.length_map]; omega) (by omega) (by omega)
    rw [show k + 1 - 1 = k from by omega] at ho1
    exact ⟨o, lop_n hb1 ho1, LOk.join hkp q1 ho (.inr (.inl ⟨s3, rfl, ho2⟩))⟩
 ·intro F P L u last x16 D k g hn hs hF hP hL hb hk1 hk2
  obtain ⟨P, rfl⟩ : ∃ K, P = K + 1 := ⟨P - 1, by omega⟩
  obtain ⟨L, rfl⟩ : ∃ K, L = K + 1 := ⟨L - 1, by omega⟩
  have hsl := hs.len
  rcases map_key (last := last) (x16 := x16) (cs := x16 ++ ⟨6, 0, [], k - 1⟩ :: D) (k := k) (g := g) hS hs (F := F) (by omega) with ⟨hk, q', hb1⟩ | ⟨t, s1, b1, b2, q0, hk, hs1, hl1, hb0⟩
  ·refine ⟨_, lop_o hb1, .inr ⟨?_, q', rfl⟩⟩
   rw [parL_succ, hk]
  ·have hv := (ih s1.length (by omega)).1 F P s1 (x16 ++ ⟨6, 0, [], k - 1⟩ :: (D ++ [⟨4, 0, t, 0⟩])) g rfl hs1 (by omega) (by omega) (by simp; omega)
   rcases map_tail (r := (t, true, q0)) (b1 := b1) (b2 := b2) hS hs1 hk1 (by omega) (by omega) hv with ⟨q', hb1, hf⟩ | ⟨f, s2, q1, q2, h⟩
   ·refine ⟨_, lop_o (hb0.trans hb1), ?_⟩
    rcases hf with hf | ⟨f, s2, hf, hno⟩
    ·refine .inr ⟨?_, q', rfl⟩
     rw [parL_succ, hk]
     simp only [hf]
    ·exact LOk.join hk hf ((par_len true P).1 _ _ _ hf).2 (.inr (.inr ⟨hno, q', rfl⟩))
   ·obtain ⟨l1, ho⟩ := (par_len true P).1 _ _ _ q1
    have l2 := (par_flat true P).1 _ _ _ q1
    rcases h with ⟨s3, e, hb1⟩ | ⟨s3, e, hb1⟩
    ·subst e
     exact ⟨_, lop_o (hb0.trans hb1), LOk.join hk q1 ho (.inl ⟨s3, rfl, q2.tail, rfl⟩)⟩
    ·subst e
     simp only [List.length_cons] at l1 l2
     obtain ⟨o, ho1, ho2⟩ := (ih s3.length (by omega)).2.2 F P L s3 t x16 (D ++ ([⟨4, 0, t, 0⟩] ++ f.flat.map fixC)) (k + 1) (g || f.flat.any outC) rfl q2.tail (by omega) (by omega) (by omega) (by rw [List.length_append, List.length_append, List.length_map, List.length_singleton]; omega) (by omega) (by omega)
     rw [show k + 1 - 1 = k from by omega] at ho1
     rw [show decide (1 < k + 1) = true from decide_eq_true (by omega)] at ho2
     exact ⟨o, lop_n (hb0.trans hb1) ho1, LOk.join hk q1 ho (.inr (.inl ⟨s3, rfl, ho2⟩))⟩
theorem vRValue_eq {S : Str} (hS : S.length ≤ 100000) {F P : Nat} (hF : 2 * S.length + 6 ≤ F) (hP : 2 * S.length + 2 ≤ P) : VOk F P S S [] false :=
 (list_all hS S.length).1 F P S [] false rfl ⟨[], rfl⟩ (by omega) hP (by simp)
end Go.Proofs.YtpmiamphppcfeaaDoor

/-
 The reference's reader: words, strings, integers, told by the plain reader of bytes. Plain laws.
-/
namespace Go.Proofs.YtpmiamphppcfeaaDoor
open Go
set_option linter.unusedVariables false
set_option linter.unusedSimpArgs false
/-! ### integers -/
theorem natF_lt : ∀ (d : Str), d.all isDig = true → natF 0 d < 10 ^ d.length := by
 have key : ∀ (d : Str) (a m : Nat), d.all isDig = true → a < 10 ^ m → natF a d < 10 ^ (m + d.length) := by
  intro d
  induction d with
  | nil => intro a m _ h; simpa [natF] using h
  | cons c d ih =>
   intro a m hd h
   simp only [List.all_cons, Bool.and_eq_true] at hd
   have hc : 48 ≤ c.toNat ∧ c.toNat ≤ 57 := by have := hd.1; simp [isDig] at this; omega
   have := ih (10 * a + (c.toNat - 48)) (m + 1) hd.2 (by rw [Nat.pow_succ]; omega)
   rw [List.length_cons, show m + (d.length + 1) = m + 1 + d.length from by omega]
   exact this
 intro d hd
 have := key d 0 0 hd (by decide)
 simpa using this
theorem numD_bd {d : Str} (hd : d.all isDig = true) (hl : d.length ≤ 18) : 0 ≤ numD d ∧ numD d < 1000000000000000000 := by
 have h1 : numD d = (natF 0 d : Int) := numD_nat d 0 hd
 have h2 := natF_lt d hd
 have h3 : 10 ^ d.length ≤ 10 ^ 18 := Nat.pow_le_pow_right (by decide) hl
 have : (10 : Nat) ^ 18 = 1000000000000000000 := by decide
 omega
end Go.Proofs.YtpmiamphppcfeaaDoor

/-
 The reference's reader of values does what the plain reader of bytes does. Plain laws.
-/
namespace Go.Proofs.YtpmiamphppcfeaaDoor
open Go
set_option linter.unusedVariables false
set_option linter.unusedSimpArgs false
def hd (m : Bool) (N : Int) : TApiCell := ⟨bif m then 6 else 5, 0, [], N⟩
end Go.Proofs.YtpmiamphppcfeaaDoor

/-
 The reference's reader of values: all of it. Plain laws.
-/
namespace Go.Proofs.YtpmiamphppcfeaaDoor
open Go
set_option linter.unusedVariables false
set_option linter.unusedSimpArgs false
end Go.Proofs.YtpmiamphppcfeaaDoor

/-
 The two ways to read: what is read strictly is what is well-formed. Plain laws.
-/
namespace Go.Proofs.YtpmiamphppcfeaaDoor
open Go
set_option linter.unusedVariables false
set_option linter.unusedSimpArgs false
theorem strP_rel : ∀ (n : Nat) (s : Str), s.length = n → strP true s = match strP false s with
  | none => none
  | some (t, u) => bif t.all okc then some (t, u) else none := by
 intro n
 induction n using Nat.strongRecOn with
 | ind n ih =>
  intro s hn
  cases s with
  | nil => rfl
  | cons c r =>
   simp only [List.length_cons] at hn
   rw [strP_cons, strP_cons]
   cases h1 : decide (c = 34) with
   | true => rfl
   | false =>
    simp only [cond_false, Bool.true_and, Bool.false_and]
    cases h3 : decide (c = 92) with
    | true =>
     have hc : okc c = true := by simp only [decide_eq_true_eq] at h3; subst h3; rfl
     rw [hc]
     cases r with
     | nil => rfl
     | cons d r' =>
      simp only [Bool.not_true, cond_false, cond_true]
      simp only [List.length_cons] at hn
      cases h4 : (decide (d = 34) || decide (d = 92)) with
      | false => rfl
      | true =>
       have hd : okc d = true := by
        simp only [Bool.or_eq_true, decide_eq_true_eq] at h4
        rcases h4 with e | e <;> subst e <;> rfl
       simp only [cond_true]
       rw [ih r'.length (by omega) r' rfl]
       cases strP false r' with
       | none => rfl
       | some q =>
        obtain ⟨t, u⟩ := q
        simp only [List.all_cons, hd, Bool.true_and]
        cases t.all okc <;> rfl
    | false =>
     simp only [cond_false]
     rw [ih r.length (by omega) r rfl]
     cases hc : okc c with
     | false =>
      simp only [Bool.not_false, cond_true]
      cases strP false r with
      | none => rfl
      | some q => obtain ⟨t, u⟩ := q; simp [hc]
     | true =>
      simp only [Bool.not_true, cond_false]
      cases strP false r with
      | none => rfl
      | some q =>
       obtain ⟨t, u⟩ := q
       simp only [List.all_cons, hc, Bool.true_and]
       cases t.all okc <;> rfl
theorem keyP_rel (m : Bool) (last : Option Str) (s : Str) : keyP true m last s = match keyP false m none s with
  | none => none
  | some (k, u) => bif keyOk m last k then some (k, u) else none := by
 cases m with
 | false => rfl
 | true =>
  cases s with
  | nil => rfl
  | cons c r =>
   unfold keyP
   simp only [cond_true, Bool.true_and, Bool.false_and, cond_false]
   cases hc : decide (c = 34) with
   | false => rfl
   | true =>
    simp only [cond_true]
    rw [strP_rel _ r rfl]
    cases strP false r with
    | none => rfl
    | some q =>
     obtain ⟨t, u⟩ := q
     simp only
     cases ht : t.all okc with
     | false =>
      have hk : keyOk true last (some t) = false := by simp [keyOk, ht]
      simp only [cond_false]
      cases u with
      | nil => rfl
      | cons d u' =>
       simp only
       cases decide (d = 58) with
       | false => rfl
       | true => simp only [cond_true, hk]; rfl
     | true =>
      simp only [cond_true]
      cases u with
      | nil => cases keyOk true last (some t) <;> rfl
      | cons d u' =>
       simp only
       cases decide (d = 58) with
       | false => cases keyOk true last (some t) <;> rfl
       | true => cases hk : keyOk true last (some t) <;> simp [hk]
def plr (c : TApiCell) : Bool := bif decide (c.fKind = 4) then decide (c.fInt = 0) && decide (c.fN = 0) else pl c
def Fo.rw : Bool → Fo → Bool
 | _, .nil => true
 | m, .cell k c r => (k.isSome == m) && plr c && !decide (0 < c.fN) && r.rw m
 | m, .node k c kids r => (k.isSome == m) && plr c && decide (0 < c.fN) && decide (c.fN = kids.cnt) && kids.rw (decide (c.fKind = 6)) && r.rw m
theorem put_wf {f : Fo} (h : f.one = true) (m : Bool) (last key : Option Str) (r : Fo) : (f.put key r).wf m last = (keyOk m last key && f.wf false none && r.wf m key) := by
 cases f with
 | nil => cases h
 | cell k c r' =>
  cases k with
  | some _ => cases h
  | none => cases r' with
   | nil => simp [Fo.put, Fo.wf, keyOk, Bool.and_assoc]
   | cell _ _ _ => cases h
   | node _ _ _ _ => cases h
 | node k c kids r' =>
  cases k with
  | some _ => cases h
  | none => cases r' with
   | nil => simp [Fo.put, Fo.wf, keyOk, Bool.and_assoc]
   | cell _ _ _ => cases h
   | node _ _ _ _ => cases h
theorem put_rw {f : Fo} (h : f.one = true) (m : Bool) (key : Option Str) (r : Fo) : (f.put key r).rw m = ((key.isSome == m) && f.rw false && r.rw m) := by
 cases f with
 | nil => cases h
 | cell k c r' =>
  cases k with
  | some _ => cases h
  | none => cases r' with
   | nil => simp [Fo.put, Fo.rw, Bool.and_assoc]
   | cell _ _ _ => cases h
   | node _ _ _ _ => cases h
 | node k c kids r' =>
  cases k with
  | some _ => cases h
  | none => cases r' with
   | nil => simp [Fo.put, Fo.rw, Bool.and_assoc]
   | cell _ _ _ => cases h
   | node _ _ _ _ => cases h
theorem nd_wf (m : Bool) (g : Fo) : (nd m g).wf false none = g.wf m none ∧ (nd m g).rw false = g.rw m := by
 unfold nd
 cases hd : decide (g.cnt = 0) with
 | true =>
  simp only [decide_eq_true_eq] at hd
  rw [cnt_nil hd]
  cases m <;> exact ⟨rfl, rfl⟩
 | false =>
  simp only [decide_eq_false_iff_not] at hd
  have h1 : decide ((0 : Int) < (g.cnt : Int)) = true := decide_eq_true (by omega)
  have h2 : decide ((0 : Int) ≤ (g.cnt : Int)) = true := decide_eq_true (by omega)
  cases m <;> simp [Fo.wf, Fo.rw, keyOk, pl, plr] <;> omega
theorem keyP_some {m : Bool} {last k : Option Str} {s u : Str} {b : Bool} (h : keyP b m last s = some (k, u)) : (k.isSome == m) = true := by
 unfold keyP at h
 cases m with
 | false => cases h; rfl
 | true =>
  simp only [cond_true] at h
  cases s with
  | nil => cases h
  | cons c r =>
   simp only at h
   cases h1 : decide (c = 34) with
   | false => rw [h1] at h; cases h
   | true =>
    rw [h1] at h
    simp only [cond_true] at h
    cases h2 : strP b r with
    | none => rw [h2] at h; cases h
    | some q =>
     obtain ⟨t, w⟩ := q
     rw [h2] at h
     simp only at h
     cases h3 : (b && !keyOk true last (some t)) with
     | true => rw [h3] at h; cases h
     | false =>
      rw [h3] at h
      simp only [cond_false] at h
      cases w with
      | nil => cases h
      | cons d w' =>
       simp only at h
       cases h4 : decide (d = 58) with
       | false => rw [h4] at h; cases h
       | true => rw [h4] at h; cases h; rfl
theorem par_rel : ∀ F : Nat, (∀ s, par true F s = (match par false F s with
   | none => none
   | some (f, u) => bif f.wf false none then some (f, u) else none) ∧ ∀ f u, par false F s = some (f, u) → f.rw false = true) ∧
  (∀ m last last' s, parL true F m last s = (match parL false F m last' s with
   | none => none
   | some (g, u) => bif g.wf m last then some (g, u) else none) ∧ ∀ g u, parL false F m last' s = some (g, u) → g.rw m = true)
 | 0 => ⟨fun s => ⟨by rw [par.eq_def, par.eq_def], (fun f u h => by rw [par.eq_def] at h; cases h)⟩, fun m last last' s => ⟨by rw [parL.eq_def, parL.eq_def], (fun g u h => by rw [parL.eq_def] at h; cases h)⟩⟩
 | F + 1 => by
  obtain ⟨ih1, ih2⟩ := par_rel F
  have lfw : ∀ k i t, pl ⟨k, i, t, 0⟩ = true → (lf k i t).wf false none = true := fun k i t h => by simp [lf, Fo.wf, keyOk, h]
  have lfr : ∀ k i t, plr ⟨k, i, t, 0⟩ = true → (lf k i t).rw false = true := fun k i t h => by simp [lf, Fo.rw, h]
  constructor
  ·intro s
   rw [par_succ, par_succ]
   cases h1 : pre [110, 117, 108, 108] s with
   | some r => exact ⟨rfl, fun f u h => by cases h; rfl⟩
   | none =>
   simp only
   cases h2 : pre [116, 114, 117, 101] s with
   | some r => exact ⟨rfl, fun f u h => by cases h; rfl⟩
   | none =>
   simp only
   cases h3 : pre [102, 97, 108, 115, 101] s with
   | some r => exact ⟨rfl, fun f u h => by cases h; rfl⟩
   | none =>
   simp only
   cases s with
   | nil => exact ⟨rfl, fun f u h => by cases h⟩
   | cons c r =>
   simp only
   cases h4 : decide (c = 34) with
   | true =>
    simp only [cond_true]
    rw [strP_rel _ r rfl]
    cases hq : strP false r with
    | none => exact ⟨rfl, fun f u h => by cases h⟩
    | some q =>
     obtain ⟨t, u⟩ := q
     simp only
     have e : (lf 4 0 t).wf false none = t.all okc := by simp [lf, Fo.wf, keyOk, pl]
     rw [e]
     refine ⟨by cases t.all okc <;> rfl, fun f u' h => by cases h; exact lfr 4 0 t rfl⟩
   | false =>
   simp only [cond_false]
   cases h5 : (decide (c = 91) || decide (c = 123)) with
   | false =>
    simp only [cond_false]
    cases hi : intP (c :: r) with
    | none => exact ⟨rfl, fun f u h => by cases h⟩
    | some q =>
     obtain ⟨f, u⟩ := q
     have hf : f.wf false none = true ∧ f.rw false = true := by
      unfold intP at hi
      simp only at hi
      cases hc : canon (decide ((c :: r).head? = some 45)) (digP (bif decide ((c :: r).head? = some 45) then (c :: r).tail else c :: r)).1 with
      | false => rw [hc] at hi; cases hi
      | true => rw [hc] at hi; cases hi; exact ⟨rfl, rfl⟩
     refine ⟨by simp only [hf.1]; rfl, fun f' u' h => by cases h; exact hf.2⟩
   | true =>
   simp only [cond_true]
   cases r with
   | nil => exact ⟨rfl, fun f u h => by cases h⟩
   | cons d r' =>
   simp only
   cases h6 : decide (d = closeC (decide (c = 123))) with
   | true =>
    simp only [cond_true, (nd_wf _ _).1, Fo.wf]
    exact ⟨trivial, fun f u h => by cases h; rw [(nd_wf _ _).2]; rfl⟩
   | false =>
   simp only [cond_false]
   obtain ⟨e1, e2⟩ := ih2 (decide (c = 123)) none none (d :: r')
   rw [e1]
   cases hq : parL false F (decide (c = 123)) none (d :: r') with
   | none => exact ⟨rfl, fun f u h => by cases h⟩
   | some q =>
    obtain ⟨g, u⟩ := q
    simp only [(nd_wf _ _).1]
    refine ⟨by cases g.wf (decide (c = 123)) none <;> rfl, fun f u' h => by cases h; rw [(nd_wf _ _).2]; exact e2 g u hq⟩
  ·intro m last last' s
   rw [parL_succ, parL_succ, keyP_rel m last s]
   have hkl : keyP false m last' s = keyP false m none s := by
    cases m with
    | false => rfl
    | true => unfold keyP; simp only [Bool.false_and]
   rw [hkl]
   cases hk : keyP false m none s with
   | none => exact ⟨rfl, fun f u h => by cases h⟩
   | some q =>
   obtain ⟨key, s1⟩ := q
   have hks := keyP_some hk
   simp only
   obtain ⟨e1, e2⟩ := ih1 s1
   cases hf : par false F s1 with
   | none =>
    rw [hf] at e1
    refine ⟨?_, fun f u h => by cases h⟩
    cases keyOk m last key with
    | false => rfl
    | true => simp only [cond_true, e1]
   | some q =>
   obtain ⟨f, s2⟩ := q
   have ho := ((par_len false F).1 _ _ _ hf).2
   have hfr := e2 f s2 hf
   rw [hf] at e1
   simp only at e1
   simp only
   cases s2 with
   | nil =>
    refine ⟨?_, fun f u h => by cases h⟩
    cases keyOk m last key with
    | false => rfl
    | true => simp only [cond_true, e1]; cases f.wf false none <;> rfl
   | cons c s3 =>
   simp only
   cases h3 : decide (c = closeC m) with
   | true =>
    simp only [cond_true, put_wf ho, Fo.wf, Bool.and_true]
    refine ⟨?_, fun g u h => by cases h; rw [put_rw ho, hks, hfr]; rfl⟩
    cases keyOk m last key with
    | false => rfl
    | true => simp only [cond_true, e1, Bool.true_and]; cases f.wf false none <;> simp [h3]
   | false =>
   simp only [cond_false]
   cases h4 : decide (c = 44) with
   | false =>
    refine ⟨?_, fun g u h => by cases h⟩
    cases keyOk m last key with
    | false => rfl
    | true => simp only [cond_true, e1]; cases f.wf false none <;> simp [h3, h4]
   | true =>
   simp only [cond_true]
   obtain ⟨e3, e4⟩ := ih2 m key key s3
   cases hq : parL false F m key s3 with
   | none =>
    rw [hq] at e3
    refine ⟨?_, fun g u h => by cases h⟩
    cases keyOk m last key with
    | false => rfl
    | true => simp only [cond_true, e1]; cases f.wf false none <;> simp [h3, h4, e3]
   | some q =>
    obtain ⟨g, u⟩ := q
    rw [hq] at e3
    simp only at e3
    simp only [put_wf ho]
    refine ⟨?_, fun g' u' h => by cases h; rw [put_rw ho, hks, hfr, e4 g u hq]; rfl⟩
    cases keyOk m last key with
    | false => rfl
    | true =>
     simp only [cond_true, e1, Bool.true_and]
     cases f.wf false none with
     | false => rfl
     | true =>
      simp only [cond_true, h3, h4, cond_false, e3, Bool.true_and]
      cases g.wf m key <;> rfl
end Go.Proofs.YtpmiamphppcfeaaDoor

/-
 Decode of any string: value's is the reference's. Plain laws.
-/
namespace Go.Proofs.YtpmiamphppcfeaaDoor
open Go
set_option linter.unusedVariables false
set_option linter.unusedSimpArgs false
def cellB (K : Nat) (c : TApiCell) : Prop := c.fStr.length ≤ K ∧ inK .i64 c.fInt = true ∧ c.fN ≤ (K : Int)
theorem cellB.mono {K K' : Nat} {c : TApiCell} (h : cellB K c) (hk : K ≤ K') : cellB K' c := ⟨by have := h.1; omega, h.2.1, by have := h.2.2; omega⟩
theorem strP_tlen (b : Bool) : ∀ (n : Nat) (s t u : Str), s.length = n → strP b s = some (t, u) → t.length ≤ s.length := by
 intro n
 induction n using Nat.strongRecOn with
 | ind n ih =>
  intro s t u hn h
  cases s with
  | nil => cases h
  | cons c r =>
   simp only [List.length_cons] at hn ⊢
   rw [strP_cons] at h
   cases h1 : decide (c = 34) with
   | true => rw [h1] at h; cases h; simp
   | false =>
    rw [h1] at h
    simp only [cond_false] at h
    cases h2 : (b && !okc c) with
    | true => rw [h2] at h; cases h
    | false =>
     rw [h2] at h
     simp only [cond_false] at h
     cases h3 : decide (c = 92) with
     | true =>
      rw [h3] at h
      cases r with
      | nil => cases h
      | cons d r' =>
       simp only [cond_true] at h
       cases h4 : (decide (d = 34) || decide (d = 92)) with
       | false => rw [h4] at h; cases h
       | true =>
        rw [h4] at h
        simp only [cond_true] at h
        cases h5 : strP b r' with
        | none => rw [h5] at h; cases h
        | some q =>
         obtain ⟨t', u'⟩ := q
         rw [h5] at h; cases h
         simp only [List.length_cons] at hn ⊢
         have := ih r'.length (by omega) r' t' u rfl h5
         omega
     | false =>
      rw [h3] at h
      simp only [cond_false] at h
      cases h5 : strP b r with
      | none => rw [h5] at h; cases h
      | some q =>
       obtain ⟨t', u'⟩ := q
       rw [h5] at h; cases h
       have := ih r.length (by omega) r t' u rfl h5
       simp only [List.length_cons]; omega
theorem keyP_tlen {b m : Bool} {last : Option Str} {s u : Str} {t : Str} (h : keyP b m last s = some (some t, u)) : t.length ≤ s.length := by
 unfold keyP at h
 cases m with
 | false => cases h
 | true =>
  simp only [cond_true] at h
  cases s with
  | nil => cases h
  | cons c r =>
   simp only at h
   cases h1 : decide (c = 34) with
   | false => rw [h1] at h; cases h
   | true =>
    rw [h1] at h
    simp only [cond_true] at h
    cases h2 : strP b r with
    | none => rw [h2] at h; cases h
    | some q =>
     obtain ⟨k, w⟩ := q
     have := strP_tlen b _ r k w rfl h2
     rw [h2] at h
     simp only at h
     cases h3 : (b && !keyOk true last (some k)) with
     | true => rw [h3] at h; cases h
     | false =>
      rw [h3] at h
      simp only [cond_false] at h
      cases w with
      | nil => cases h
      | cons d w' =>
       simp only at h
       cases h4 : decide (d = 58) with
       | false => rw [h4] at h; cases h
       | true => rw [h4] at h; cases h; simp only [List.length_cons]; omega
theorem intV_i64 (neg : Bool) {d : Str} (hd : d.all isDig = true) : inK .i64 (intV neg d) = true := by
 unfold intV
 cases h18 : decide (18 < d.length) with
 | true =>
  cases neg with
  | true => exact (by decide : inK .i64 (-2000000000000) = true)
  | false => exact (by decide : inK .i64 2000000000000 = true)
 | false =>
  simp only [decide_eq_false_iff_not] at h18
  have hb := numD_bd hd (by omega)
  cases neg with
  | true => exact inK_i64' (by simp only [cond_false, cond_true]; omega) (by simp only [cond_false, cond_true]; omega)
  | false => exact inK_i64' (by simp only [cond_false]; omega) (by simp only [cond_false]; omega)
theorem nd_mem {m : Bool} {g : Fo} {K : Nat} (hg : ∀ c ∈ g.flat, cellB K c) (hl : g.flat.length ≤ K) : ∀ c ∈ (nd m g).flat, cellB K c := fun c hc => by
 rw [nd_flat _ _ cnt_nil] at hc
 have hcf := cnt_le_flat g
 rcases List.mem_cons.1 hc with rfl | hc
 ·exact ⟨Nat.zero_le _, (by decide : inK .i64 0 = true), by show (g.cnt : Int) ≤ K; omega⟩
 ·exact hg c hc
theorem put_mem {f r : Fo} {K : Nat} {key : Option Str} (ho : f.one = true) (hf : ∀ c ∈ f.flat, cellB K c) (hr : ∀ c ∈ r.flat, cellB K c) (hk : ∀ t, key = some t → t.length ≤ K) : ∀ c ∈ (f.put key r).flat, cellB K c := fun c hc => by
 rw [put_flat ho] at hc
 rcases List.mem_append.1 hc with h | h
 ·cases key with
  | none => cases h
  | some t =>
   have : c = ⟨4, 0, t, 0⟩ := by simpa [keyC] using h
   subst this
   exact ⟨hk t rfl, (by decide : inK .i64 0 = true), by show (0 : Int) ≤ K; omega⟩
 ·rcases List.mem_append.1 h with h | h
  ·exact hf c h
  ·exact hr c h
theorem par_cells (b : Bool) (K : Nat) : ∀ F : Nat, (∀ s f u, s.length ≤ K → par b F s = some (f, u) → ∀ c ∈ f.flat, cellB K c) ∧ (∀ m last s g u, s.length ≤ K → parL b F m last s = some (g, u) → ∀ c ∈ g.flat, cellB K c)
 | 0 => ⟨(fun s f u _ h => by rw [par.eq_def] at h; cases h), (fun m last s g u _ h => by rw [parL.eq_def] at h; cases h)⟩
 | F + 1 => by
  obtain ⟨ih1, ih2⟩ := par_cells b K F
  have lfc : ∀ k i t, t.length ≤ K → inK .i64 i = true → ∀ c ∈ (lf k i t).flat, cellB K c := fun k i t ht hi c hc => by
   have : c = ⟨k, i, t, 0⟩ := by simpa [lf, Fo.flat, keyC] using hc
   subst this
   exact ⟨ht, hi, by show (0 : Int) ≤ K; omega⟩
  constructor
  ·intro s f u hs h
   rw [par_succ] at h
   cases h1 : pre [110, 117, 108, 108] s with
   | some r => rw [h1] at h; cases h; exact lfc _ _ _ (Nat.zero_le _) (by decide)
   | none =>
   rw [h1] at h; simp only at h
   cases h2 : pre [116, 114, 117, 101] s with
   | some r => rw [h2] at h; cases h; exact lfc _ _ _ (Nat.zero_le _) (by decide)
   | none =>
   rw [h2] at h; simp only at h
   cases h3 : pre [102, 97, 108, 115, 101] s with
   | some r => rw [h3] at h; cases h; exact lfc _ _ _ (Nat.zero_le _) (by decide)
   | none =>
   rw [h3] at h; simp only at h
   cases s with
   | nil => cases h
   | cons c r =>
   simp only [List.length_cons] at hs
   simp only at h
   cases h4 : decide (c = 34) with
   | true =>
    rw [h4] at h; simp only [cond_true] at h
    cases h5 : strP b r with
    | none => rw [h5] at h; cases h
    | some q =>
     obtain ⟨t, w⟩ := q
     rw [h5] at h; cases h
     have := strP_tlen b _ r t u rfl h5
     exact lfc _ _ _ (by omega) (by decide)
   | false =>
   rw [h4] at h; simp only [cond_false] at h
   cases h5 : (decide (c = 91) || decide (c = 123)) with
   | false =>
    rw [h5] at h; simp only [cond_false] at h
    unfold intP at h
    simp only at h
    cases hc : canon (decide ((c :: r).head? = some 45)) (digP (bif decide ((c :: r).head? = some 45) then (c :: r).tail else c :: r)).1 with
    | false => rw [hc] at h; cases h
    | true =>
     rw [hc] at h; cases h
     exact lfc 3 _ [] (Nat.zero_le _) (intV_i64 _ (digP_all _))
   | true =>
   rw [h5] at h; simp only [cond_true] at h
   cases r with
   | nil => cases h
   | cons d r' =>
   simp only at h
   cases h6 : decide (d = closeC (decide (c = 123))) with
   | true => rw [h6] at h; cases h; exact nd_mem (fun c hc => by cases hc) (Nat.zero_le _)
   | false =>
   rw [h6] at h; simp only [cond_false] at h
   cases h7 : parL b F (decide (c = 123)) none (d :: r') with
   | none => rw [h7] at h; cases h
   | some q =>
    obtain ⟨g, w⟩ := q
    rw [h7] at h; cases h
    have := (par_flat b F).2 _ _ _ _ _ h7
    exact nd_mem (ih2 _ _ _ _ _ (by omega) h7) (by omega)
  ·intro m last s g u hs h
   rw [parL_succ] at h
   cases h1 : keyP b m last s with
   | none => rw [h1] at h; cases h
   | some q =>
   obtain ⟨key, s1⟩ := q
   have l1 := keyP_len h1
   have hkt : ∀ t, key = some t → t.length ≤ K := fun t e => by subst e; have := keyP_tlen h1; omega
   rw [h1] at h; simp only at h
   cases h2 : par b F s1 with
   | none => rw [h2] at h; cases h
   | some q =>
   obtain ⟨f, s2⟩ := q
   obtain ⟨l2, o2⟩ := (par_len b F).1 _ _ _ h2
   have hf := ih1 _ _ _ (by omega) h2
   rw [h2] at h; simp only at h
   cases s2 with
   | nil => cases h
   | cons c s3 =>
   simp only [List.length_cons] at l2
   simp only at h
   cases h3 : decide (c = closeC m) with
   | true => rw [h3] at h; cases h; exact put_mem o2 hf (fun c hc => by cases hc) hkt
   | false =>
   rw [h3] at h; simp only [cond_false] at h
   cases h4 : decide (c = 44) with
   | false => rw [h4] at h; cases h
   | true =>
   rw [h4] at h; simp only [cond_true] at h
   cases h5 : parL b F m key s3 with
   | none => rw [h5] at h; cases h
   | some q =>
    obtain ⟨g', w⟩ := q
    rw [h5] at h; cases h
    exact put_mem o2 hf (ih2 _ _ _ _ _ (by omega) h5) hkt
theorem fix_id : ∀ l : List TApiCell, l.any outC = false → l.map fixC = l
 | [], _ => rfl
 | c :: l, h => by
  simp only [List.any_cons, Bool.or_eq_false_iff] at h
  simp only [List.map_cons, fix_id l h.2, fixC, h.1, cond_false]
def decV (s : Str) : Option (List TApiCell × Int) :=
 bif decide (4000 < s.length) then some ([], 3) else match par true 10000 s with
  | some (f, []) => some (bif decide (errF f = 0) then (f.flat, 0) else ([], errF f))
  | _ => some ([], 1)
theorem vRValue_start (s : Str) : TValueReader.mk s 0 [] false = mkq s s [] false := by simp [mkq]
theorem errF_out {f : Fo} (h : f.flat.any outC = true) : errF f = 2 := by unfold errF; rw [h]; rfl
theorem vDecode_eq {s : Str} : vDecode 20000 s = decV s := by
 unfold vDecode decV
 have a1 : decide ((4000 : Int) < (s.length : Int)) = decide (4000 < s.length) := by rw [Bool.eq_iff_iff]; simp; omega
 rw [a1]
 cases h4 : decide (4000 < s.length) with
 | true => rfl
 | false =>
  simp only [decide_eq_false_iff_not] at h4
  rw [cnd_ff rfl, vRValue_start]
  simp only [cond_false]
  rcases vRValue_eq (S := s) (by omega) (F := 20000) (P := 10000) (by omega) (by omega) with ⟨f, w, q1, q2, q3⟩ | ⟨q1, q', q2⟩
  ·rw [q3, q1, obn_s rfl, cnd_ff (p := !true) rfl]
   obtain ⟨_, hone⟩ := (par_len true 10000).1 _ _ _ q1
   have hwl := q2.len
   have hcells := (par_cells true 4000 10000).1 _ _ _ (by omega) q1
   have hfl := (par_flat true 10000).1 _ _ _ q1
   unfold vDecode_j1
   have hat : (true, mkq s w ([] ++ f.flat.map fixC) (false || f.flat.any outC)).2.fAt = (s.length : Int) - w.length := rfl
   rw [hat]
   cases w with
   | cons c w' =>
    have hd : decide ((s.length : Int) - (c :: w').length = (s.length : Int)) = false := decide_eq_false (by simp only [List.length_cons]; omega)
    rw [hd]; rfl
   | nil =>
    have hd : decide ((s.length : Int) - ([] : Str).length = (s.length : Int)) = true := decide_eq_true (by simp)
    rw [hd, cnd_ff (p := !true) rfl]
    change _ = some (bif decide (errF f = 0) then (f.flat, 0) else ([], errF f))
    have hgr : (true, mkq s [] ([] ++ f.flat.map fixC) (false || f.flat.any outC)).2.fGreat = f.flat.any outC := rfl
    have hce : (true, mkq s [] ([] ++ f.flat.map fixC) (false || f.flat.any outC)).2.fCells = f.flat.map fixC := rfl
    rw [hgr, hce]
    cases ho : f.flat.any outC with
    | true => rw [errF_out ho]; rfl
    | false =>
     rw [cnd_ff rfl, fix_id _ ho]
     have hA : CkA 4000 f.flat := ⟨by decide, by omega, fun c hc => by obtain ⟨c1, c2, c3⟩ := hcells c hc; exact ⟨c1, c2, by omega⟩⟩
     have hwf : f.wf false none = true := by
      have := ((par_rel 10000).1 s).1
      rw [q1] at this
      cases hp : par false 10000 s with
      | none => rw [hp] at this; cases this
      | some q =>
       obtain ⟨f', u'⟩ := q
       rw [hp] at this
       simp only at this
       cases hw : f'.wf false none with
       | false => rw [hw] at this; cases this
       | true => rw [hw] at this; cases this; exact hw
     have hev : errV f.flat = errF f := by unfold errV; rw [whole_of hone hwf]
     unfold vChecked
     rw [vCheck_eq hA (by decide) (by decide), obn_s rfl, hev]
     cases decide (errF f = 0) <;> rfl
  ·rw [q2, q1]; rfl
end Go.Proofs.YtpmiamphppcfeaaDoor

/-
 Numbers and strings: their texts, read again, and what was read, written again. Plain laws.
-/
namespace Go.Proofs.YtpmiamphppcfeaaDoor
open Go
set_option linter.unusedVariables false
set_option linter.unusedSimpArgs false
theorem ofNat_dig {x : Nat} (h : x < 10) : (UInt8.ofNat (48 + x)).toNat = 48 + x := by simp; omega
theorem isDig_dig {x : Nat} (h : x < 10) : isDig (UInt8.ofNat (48 + x)) = true := by
 unfold isDig; rw [ofNat_dig h]; simp; omega
theorem natF_snoc (d : Str) (c : UInt8) (a : Nat) : natF a (d ++ [c]) = 10 * natF a d + (c.toNat - 48) := by simp [natF]
theorem dec_lt {u : Nat} (h : u < 10) : Lib.decDigits u = [UInt8.ofNat (48 + u)] := by rw [Lib.decDigits, dif_pos h]
theorem dec_ge {u : Nat} (h : ¬ u < 10) : Lib.decDigits u = Lib.decDigits (u / 10) ++ [UInt8.ofNat (48 + u % 10)] := by
 rw [Lib.decDigits, dif_neg h]
theorem dec_facts : ∀ u : Nat, (Lib.decDigits u).all isDig = true ∧ Lib.decDigits u ≠ [] ∧ natF 0 (Lib.decDigits u) = u ∧ ((Lib.decDigits u).head? = some 48 → u = 0) := by
 intro u
 induction u using Nat.strongRecOn with
 | ind u ih =>
  by_cases h : u < 10
  ·rw [dec_lt h]
   refine ⟨by simp only [List.all_cons, List.all_nil, isDig_dig h, Bool.and_self], by simp, ?_, ?_⟩
   ·show 10 * 0 + ((UInt8.ofNat (48 + u)).toNat - 48) = u
    rw [ofNat_dig h]; omega
   ·intro e
    simp only [List.head?_cons, Option.some.injEq] at e
    have := congrArg UInt8.toNat e
    rw [ofNat_dig h] at this
    have h48 : (48 : UInt8).toNat = 48 := rfl
    omega
  ·obtain ⟨a, b, c, d⟩ := ih (u / 10) (by omega)
   rw [dec_ge h]
   refine ⟨by simp only [List.all_append, a, List.all_cons, List.all_nil, isDig_dig (show u % 10 < 10 by omega), Bool.and_self], by simp, ?_, ?_⟩
   ·rw [natF_snoc, c, ofNat_dig (by omega)]; omega
   ·intro e
    cases hd : Lib.decDigits (u / 10) with
    | nil => exact absurd hd b
    | cons x r =>
     rw [hd] at e
     have := d (by rw [hd]; simpa using e)
     omega
theorem dec_natF : ∀ (n : Nat) (d : Str), d.length = n → d.all isDig = true → d ≠ [] → (d.head? = some 48 → d.length = 1) → Lib.decDigits (natF 0 d) = d := by
 intro n
 induction n with
 | zero => intro d hn _ hne; exact absurd (List.eq_nil_of_length_eq_zero hn) hne
 | succ n ih =>
  intro d hn ha hne hh
  obtain ⟨d', c, rfl⟩ : ∃ d' c, d = d' ++ [c] := ⟨d.dropLast, d.getLast hne, (List.dropLast_concat_getLast hne).symm⟩
  rw [List.all_append] at ha
  simp only [List.all_cons, List.all_nil, Bool.and_true, Bool.and_eq_true] at ha
  have hc : 48 ≤ c.toNat ∧ c.toNat ≤ 57 := by have := ha.2; simp [isDig] at this; omega
  have ec : UInt8.ofNat (48 + (c.toNat - 48)) = c := by rw [show 48 + (c.toNat - 48) = c.toNat from by omega]; simp
  rw [natF_snoc]
  cases hd : d' with
  | nil =>
   show Lib.decDigits (10 * 0 + (c.toNat - 48)) = [c]
   rw [dec_lt (by omega), show 48 + (10 * 0 + (c.toNat - 48)) = 48 + (c.toNat - 48) from by omega, ec]
  | cons x r =>
   rw [← hd]
   have hne' : d' ≠ [] := by rw [hd]; simp
   have h1 : d'.head? ≠ some 48 := fun e => by
    have := hh (by rw [hd] at e ⊢; simpa using e)
    rw [hd] at this; simp at this
   have ih' := ih d' (by simp at hn; omega) ha.1 hne' (fun e => absurd e h1)
   have hpos : 1 ≤ natF 0 d' := by
    rw [hd]
    show 1 ≤ natF (10 * 0 + (x.toNat - 48)) r
    have hx : 48 ≤ x.toNat ∧ x.toNat ≤ 57 := by have := ha.1; rw [hd] at this; simp [isDig] at this; omega
    have hx2 : x.toNat ≠ 48 := fun e => h1 (by rw [hd]; simp; rw [← UInt8.toNat_inj]; exact e)
    exact Nat.le_trans (by omega) (natF_mono r _)
   rw [dec_ge (by omega), show (10 * natF 0 d' + (c.toNat - 48)) / 10 = natF 0 d' from by omega, show (10 * natF 0 d' + (c.toNat - 48)) % 10 = c.toNat - 48 from by omega, ih', ec]
theorem digP_app : ∀ (d w : Str), d.all isDig = true → (∀ c r, w = c :: r → isDig c = false) → digP (d ++ w) = (d, w)
 | [], w, _, hw => by
  cases w with
  | nil => rfl
  | cons c r => simp [digP, hw c r rfl]
 | c :: d, w, ha, hw => by
  simp only [List.all_cons, Bool.and_eq_true] at ha
  simp [digP, ha.1, digP_app d w ha.2 hw]
theorem intP_itoa {n : Int} {w : Str} (h0 : -1000000000000 ≤ n) (h1 : n ≤ 1000000000000) (hw : ∀ c r, w = c :: r → isDig c = false) : intP (Lib.itoa n ++ w) = some (.cell none ⟨3, n, [], 0⟩ .nil, w) := by
 have key : ∀ (u : Nat) (neg : Bool), u ≤ 1000000000000 → (neg = true → 1 ≤ u) → intP (txtD neg (Lib.decDigits u) ++ w) = some (.cell none ⟨3, bif neg then -(u : Int) else u, [], 0⟩ .nil, w) := fun u neg hu hneg => by
  obtain ⟨a, b, c, d⟩ := dec_facts u
  have hl : (Lib.decDigits u).length ≤ 18 := by
   cases hdd : Lib.decDigits u with
   | nil => simp
   | cons x r =>
    by_cases h18 : (x :: r).length ≤ 18
    ·exact h18
    ·exfalso
     have hx : 48 ≤ x.toNat ∧ x.toNat ≤ 57 := by rw [hdd] at a; simp [isDig] at a; omega
     have hr : 18 ≤ r.length := by simp only [List.length_cons] at h18; omega
     by_cases e48 : x = 48
     ·have := d (by rw [hdd, e48]; rfl)
      subst this
      have e0 : Lib.decDigits 0 = [UInt8.ofNat 48] := dec_lt (by omega)
      rw [e0] at hdd; cases hdd; simp at hr
     ·have hx2 : x.toNat ≠ 48 := fun e => e48 (by rw [← UInt8.toNat_inj]; exact e)
      rw [hdd] at c
      have c' : natF (10 * 0 + (x.toNat - 48)) r = u := c
      have := natF_pow r (10 * 0 + (x.toNat - 48)) (by omega)
      have h2 : 10 ^ 18 ≤ 10 ^ r.length := Nat.pow_le_pow_right (by omega) hr
      omega
  have hhead : ∀ (x : UInt8) (r : Str), Lib.decDigits u = x :: r → x ≠ 45 := fun x r e => by
   rw [e] at a
   intro e2; subst e2; simp [isDig] at a
  have hcan : canon neg (Lib.decDigits u) = true := by
   unfold canon
   have e1 : decide (Lib.decDigits u = []) = false := decide_eq_false b
   rw [e1]
   by_cases hh : (Lib.decDigits u).head? = some 48
   ·have hu0 := d hh
    subst hu0
    have : neg = false := by cases neg with
     | false => rfl
     | true => have := hneg rfl; omega
    subst this
    rw [dec_lt (by omega)]; rfl
   ·rw [decide_eq_false hh]; rfl
  have hv : intV neg (Lib.decDigits u) = bif neg then -(u : Int) else u := by
   have hn : numD (Lib.decDigits u) = (u : Int) := by
    have := numD_nat (Lib.decDigits u) 0 a
    rw [c] at this; exact this
   unfold intV
   rw [decide_eq_false (by omega), hn]; rfl
  unfold intP txtD
  cases neg with
  | true =>
   have e1 : decide ((45 :: (Lib.decDigits u ++ w)).head? = some 45) = true := rfl
   simp only [cond_true, List.cons_append, e1, List.tail_cons, digP_app _ _ a hw, hcan, hv]
  | false =>
   have e1 : decide ((((bif false then 45 :: Lib.decDigits u else Lib.decDigits u) ++ w).head?) = some 45) = false := by
    cases hdd : Lib.decDigits u with
    | nil => exact absurd hdd b
    | cons x r => simp [hhead x r hdd]
   simp only [cond_false] at e1
   simp only [cond_false, e1, digP_app _ _ a hw, hcan, hv, cond_true]
 by_cases hneg : n < 0
 ·have e : Lib.itoa n = txtD true (Lib.decDigits n.natAbs) := by
   have := Lib.itoa_neg n.natAbs (by omega)
   rw [show -(n.natAbs : Int) = n from by omega] at this
   rw [this]; rfl
  have := key n.natAbs true (by omega) (fun _ => by omega)
  rw [e, this]
  show some (Fo.cell none ⟨3, -(n.natAbs : Int), [], 0⟩ .nil, w) = _
  rw [show -(n.natAbs : Int) = n from by omega]
 ·have e : Lib.itoa n = txtD false (Lib.decDigits n.natAbs) := by
   have := Lib.itoa_nonneg n.natAbs
   rw [show (n.natAbs : Int) = n from by omega] at this
   rw [this]; rfl
  have := key n.natAbs false (by omega) (fun h => by cases h)
  rw [e, this]
  show some (Fo.cell none ⟨3, (n.natAbs : Int), [], 0⟩ .nil, w) = _
  rw [show (n.natAbs : Int) = n from by omega]
theorem intP_back {s u : Str} {f : Fo} (h : intP s = some (f, u)) : ∃ n, f = .cell none ⟨3, n, [], 0⟩ .nil ∧ (outC ⟨3, n, [], 0⟩ = false → s = Lib.itoa n ++ u) := by
 unfold intP at h
 simp only at h
 have key : ∀ (neg : Bool) (r : Str), s = (bif neg then 45 :: r else r) → canon neg (digP r).1 = true → outC ⟨3, intV neg (digP r).1, [], 0⟩ = false → s = Lib.itoa (intV neg (digP r).1) ++ (digP r).2 := fun neg r es hcan hout => by
  have hd := digP_all r
  have he := digP_eq r
  generalize (digP r).1 = d at *
  generalize (digP r).2 = w at *
  unfold canon at hcan
  simp only [Bool.and_eq_true, Bool.not_eq_true', decide_eq_false_iff_not] at hcan
  obtain ⟨hne, hz⟩ := hcan
  have hl : d.length ≤ 18 := by
   by_cases h18 : d.length ≤ 18
   ·exact h18
   ·exfalso
    unfold intV at hout
    rw [decide_eq_true (by omega)] at hout
    cases neg <;> simp [outC] at hout
  have hn : intV neg d = bif neg then -(natF 0 d : Int) else (natF 0 d : Int) := by
   have := numD_nat d 0 hd
   unfold intV
   rw [decide_eq_false (by omega)]
   show (bif neg then -(numD d) else numD d) = _
   rw [show numD d = (natF 0 d : Int) from this]
  have hback := dec_natF d.length d rfl hd hne (fun e => by
   cases h1 : decide (1 < d.length) with
   | true => rw [decide_eq_true e, h1] at hz; simp at hz
   | false =>
    simp only [decide_eq_false_iff_not] at h1
    cases d with
    | nil => exact absurd rfl hne
    | cons x y => simp only [List.length_cons] at h1 ⊢; omega)
  rw [hn]
  cases neg with
  | true =>
   have hpos : 1 ≤ natF 0 d := by
    cases d with
    | nil => exact absurd rfl hne
    | cons x y =>
     have hx : 48 ≤ x.toNat ∧ x.toNat ≤ 57 := by simp [isDig] at hd; omega
     have hx2 : x.toNat ≠ 48 := fun e => by
      have : x = 48 := by rw [← UInt8.toNat_inj]; exact e
      rw [this] at hz; simp at hz
     show 1 ≤ natF (10 * 0 + (x.toNat - 48)) y
     exact Nat.le_trans (by omega) (natF_mono y _)
   have := Lib.itoa_neg (natF 0 d) hpos
   simp only [cond_true] at es ⊢
   rw [this, hback, es, List.cons_append, ← he]
  | false =>
   have := Lib.itoa_nonneg (natF 0 d)
   simp only [cond_false] at es ⊢
   rw [this, hback, es, ← he]
 cases hneg : decide (s.head? = some 45) with
 | true =>
  rw [hneg] at h
  simp only [cond_true] at h
  cases hcan : canon true (digP s.tail).1 with
  | false => rw [hcan] at h; cases h
  | true =>
   rw [hcan] at h
   simp only [cond_true, Option.some.injEq, Prod.mk.injEq] at h
   obtain ⟨rfl, rfl⟩ := h
   refine ⟨_, rfl, fun hout => key true s.tail ?_ hcan hout⟩
   cases s with
   | nil => simp at hneg
   | cons c r =>
    simp at hneg
    subst hneg; rfl
 | false =>
  rw [hneg] at h
  simp only [cond_false] at h
  cases hcan : canon false (digP s).1 with
  | false => rw [hcan] at h; cases h
  | true =>
   rw [hcan] at h
   simp only [cond_true, Option.some.injEq, Prod.mk.injEq] at h
   obtain ⟨rfl, rfl⟩ := h
   exact ⟨_, rfl, fun hout => key false s rfl hcan hout⟩
theorem strP_esc : ∀ (s w : Str), s.all okc = true → strP true (escS s ++ 34 :: w) = some (s, w)
 | [], w, _ => by
  show strP true (34 :: w) = _
  rw [strP_cons]; rfl
 | c :: s, w, ha => by
  simp only [List.all_cons, Bool.and_eq_true] at ha
  have ih := strP_esc s w ha.2
  have e : escS (c :: s) = (bif (decide (c = 34) || decide (c = 92)) then [92, c] else [c]) ++ escS s := by simp [escS]
  rw [e]
  cases hq : (decide (c = 34) || decide (c = 92)) with
  | true =>
   simp only [cond_true, List.cons_append, List.nil_append]
   rw [strP_cons, show decide ((92 : UInt8) = 34) = false from by decide, show (true && !okc 92) = false from by decide, show decide ((92 : UInt8) = 92) = true from by decide]
   simp only [cond_false, cond_true, hq, ih]
  | false =>
   simp only [cond_false, List.cons_append, List.nil_append]
   simp only [Bool.or_eq_false_iff] at hq
   rw [strP_cons, hq.1, ha.1, hq.2]
   simp only [Bool.not_true, Bool.and_false, cond_false, ih]
theorem strP_back : ∀ (n : Nat) (s t u : Str), s.length = n → strP true s = some (t, u) → s = escS t ++ 34 :: u := by
 intro n
 induction n using Nat.strongRecOn with
 | ind n ih =>
  intro s t u hn h
  cases s with
  | nil => cases h
  | cons c r =>
   simp only [List.length_cons] at hn
   rw [strP_cons] at h
   cases h1 : decide (c = 34) with
   | true =>
    rw [h1] at h; cases h
    rw [of_decide_eq_true h1]; rfl
   | false =>
    rw [h1] at h
    simp only [cond_false] at h
    cases h2 : (true && !okc c) with
    | true => rw [h2] at h; cases h
    | false =>
     rw [h2] at h
     simp only [cond_false] at h
     cases h3 : decide (c = 92) with
     | true =>
      rw [h3] at h
      cases r with
      | nil => cases h
      | cons d r' =>
       simp only [cond_true] at h
       cases h4 : (decide (d = 34) || decide (d = 92)) with
       | false => rw [h4] at h; cases h
       | true =>
        rw [h4] at h
        simp only [cond_true] at h
        cases h5 : strP true r' with
        | none => rw [h5] at h; cases h
        | some q =>
         obtain ⟨t', u'⟩ := q
         rw [h5] at h; cases h
         simp only [List.length_cons] at hn
         have := ih r'.length (by omega) r' t' u rfl h5
         rw [of_decide_eq_true h3, this]
         simp [escS, h4]
     | false =>
      rw [h3] at h
      simp only [cond_false] at h
      cases h5 : strP true r with
      | none => rw [h5] at h; cases h
      | some q =>
       obtain ⟨t', u'⟩ := q
       rw [h5] at h; cases h
       have := ih r.length (by omega) r t' u rfl h5
       rw [this]
       simp only [decide_eq_false_iff_not] at h1 h3
       simp [escS, h1, h3]
end Go.Proofs.YtpmiamphppcfeaaDoor

/-
 A number that was read is written as it stood. Plain laws.
-/
namespace Go.Proofs.YtpmiamphppcfeaaDoor
open Go
set_option linter.unusedVariables false
set_option linter.unusedSimpArgs false
theorem parse_itoa {s : Str} (h : parseE s = 0) (h0 : 0 ≤ parseV s) : Lib.itoa (parseV s) = s := by
 unfold parseE at h
 unfold parseV at h0 ⊢
 cases hd : decS s with
 | false => rw [hd] at h; simp at h
 | true =>
  simp only [hd, if_true] at h h0 ⊢
  have hdec := hd
  simp only [decS, Bool.and_eq_true, Bool.not_eq_true', Bool.or_eq_false_iff, decide_eq_false_iff_not] at hdec
  obtain ⟨⟨hne, hz⟩, hall⟩ := hdec
  rw [all_digCh] at hall
  cases hs : s with
  | nil => subst hs; exact absurd (show digs [] = [] by simp [digs, sgnS]) hne
  | cons c r =>
   subst hs
   by_cases hc : c = 45
   ·subst hc
    have hdg : digs (45 :: r) = r := by simp [digs, sgnS, bat]
    rw [hdg] at hne hall hz
    have hz48 : bat r 0 ≠ 48 := by
     intro e; rw [e] at hz; simp at hz
    rw [Lib.atoiAll_minus] at h h0 ⊢
    have hpm : Lib.parseMag r = Lib.parseUint10 0 r := by unfold Lib.parseMag; rw [if_neg hne]
    rw [hpm] at h h0 ⊢
    have hpos : 1 ≤ natF 0 r := by
     cases r with
     | nil => exact absurd rfl hne
     | cons x y =>
      have hx : 48 ≤ x.toNat ∧ x.toNat ≤ 57 := by simp [isDig] at hall; omega
      have hx2 : x.toNat ≠ 48 := fun e => hz48 (by show ((x.toNat : Nat) : Int) = 48; omega)
      show 1 ≤ natF (10 * 0 + (x.toNat - 48)) y
      exact Nat.le_trans (by omega) (natF_mono y _)
    rcases parseU r 0 hall with e | ⟨e, _⟩
    ·rw [e] at h h0
     simp only [Lib.signed] at h h0
     split at h0
     ·rename_i hq
      split at hq
      ·cases hq
      ·cases hq
       split at h0
       ·omega
       ·rename_i hv hv2
        rw [if_neg (by assumption)] at h
        simp only at h
        rw [if_neg hv2] at h; cases h
     ·rename_i hq
      split at h
      ·rename_i v hv
       exact absurd hv (by intro hv; exact hq _ hv)
      ·cases h
    ·rw [e] at h
     simp [Lib.signed] at h
   ·have hb : ¬ bat (c :: r) 0 = 45 := by
     intro e; exact hc (UInt8.toNat_inj.1 (by have : ((c.toNat : Nat) : Int) = 45 := e; simp; omega))
    have hdg : digs (c :: r) = c :: r := by simp [digs, sgnS, hb]
    rw [hdg] at hne hall hz
    have hc48 : 48 ≤ c.toNat := by simp [isDig] at hall; omega
    rw [Lib.atoiAll_plain c r (by omega) (by omega)] at h h0 ⊢
    have hpm : Lib.parseMag (c :: r) = Lib.parseUint10 0 (c :: r) := by unfold Lib.parseMag; rw [if_neg hne]
    rw [hpm] at h h0 ⊢
    rcases parseU (c :: r) 0 hall with e | ⟨e, _⟩
    ·rw [e] at h h0 ⊢
     simp only [Lib.signless] at h h0 ⊢
     by_cases hbig : 9223372036854775808 ≤ natF 0 (c :: r)
     ·rw [if_pos hbig] at h; simp at h
     ·rw [if_neg hbig] at h ⊢
      simp only at h ⊢
      cases hv : validS (natF 0 (c :: r) : Int) with
      | false => rw [hv] at h; simp at h
      | true =>
       rw [if_pos rfl, Lib.itoa_nonneg]
       refine dec_natF (c :: r).length (c :: r) rfl hall hne (fun e48 => ?_)
       simp only [List.head?_cons, Option.some.injEq] at e48
       subst e48
       have : bat (48 :: r) 0 = 48 := rfl
       rw [this] at hz
       simp only [decide_true, Bool.true_and, Bool.not_eq_false', decide_eq_true_eq] at hz
       rw [hz]; rfl
    ·rw [e] at h
     simp [Lib.signless] at h
end Go.Proofs.YtpmiamphppcfeaaDoor

/-
 The text of a value is read as the value; what was read is written as it was. Plain laws.
-/
namespace Go.Proofs.YtpmiamphppcfeaaDoor
open Go
set_option linter.unusedVariables false
set_option linter.unusedSimpArgs false
theorem put_txt {f : Fo} (h : f.one = true) (key : Option Str) (r : Fo) (b : Bool) : (f.put key r).txt b = sepT b ++ (ktx key ++ (f.txt true ++ r.txt false)) := by
 cases f with
 | nil => cases h
 | cell k c s => cases k with
  | some _ => cases h
  | none => cases s with
   | nil => simp [Fo.put, Fo.txt, sepT, ktx]
   | _ => cases h
 | node k c kids s => cases k with
  | some _ => cases h
  | none => cases s with
   | nil => simp [Fo.put, Fo.txt, sepT, ktx]
   | _ => cases h
theorem put_any {f : Fo} (h : f.one = true) (key : Option Str) (r : Fo) : (f.put key r).flat.any outC = (f.flat.any outC || r.flat.any outC) := by
 rw [put_flat h, List.any_append, List.any_append, keyC_out, Bool.false_or]
theorem as_put {m : Bool} {last : Option Str} {g : Fo} (hw : g.wf m last = true) : g = .nil ∨ ∃ (k : Option Str) (f r : Fo), g = f.put k r ∧ f.one = true ∧ f.wf false none = true ∧ keyOk m last k = true ∧ r.wf m k = true := by
 cases g with
 | nil => exact .inl rfl
 | cell k c r =>
  simp only [Fo.wf, Bool.and_eq_true, Bool.not_eq_true'] at hw
  obtain ⟨⟨⟨w1, w2⟩, w3⟩, w4⟩ := hw
  exact .inr ⟨k, .cell none c .nil, r, rfl, rfl, wf_leaf w2 w3, w1, w4⟩
 | node k c kids r =>
  simp only [Fo.wf, Bool.and_eq_true, decide_eq_true_eq] at hw
  obtain ⟨⟨⟨⟨⟨w1, w2⟩, w3⟩, w5⟩, w6⟩, w4⟩ := hw
  exact .inr ⟨k, .node none c kids .nil, r, rfl, rfl, wf_node w2 w3 w5 w6, w1, w4⟩
theorem txt_next {m : Bool} {last : Option Str} {g : Fo} (hw : g.wf m last = true) (hn : g ≠ .nil) : g.txt false = 44 :: g.txt true := by
 rcases as_put hw with h | ⟨k, f, r, rfl, h1, _⟩
 ·exact absurd h hn
 ·rw [put_txt h1, put_txt h1]; rfl
theorem keyP_ktx {m : Bool} {last k : Option Str} {w : Str} (h : keyOk m last k = true) : keyP true m last (ktx k ++ w) = some (k, w) := by
 cases k with
 | none =>
  have : m = false := by simpa [keyOk] using h
  subst this; rfl
 | some s =>
  have h' := h
  simp only [keyOk, Bool.and_eq_true] at h
  obtain ⟨⟨h1, h2⟩, h3⟩ := h
  subst h1
  have e : ktx (some s) ++ w = 34 :: (escS s ++ 34 :: (58 :: w)) := by simp [ktx, quoS]
  rw [e]
  unfold keyP
  simp only [cond_true, decide_true, strP_esc s (58 :: w) h2, h', Bool.not_true, Bool.and_false, cond_false]
theorem keyP_back {m : Bool} {last k : Option Str} {s w : Str} (h : keyP true m last s = some (k, w)) : s = ktx k ++ w := by
 unfold keyP at h
 cases m with
 | false => cases h; rfl
 | true =>
  simp only [cond_true] at h
  cases s with
  | nil => cases h
  | cons c r =>
   simp only at h
   cases h1 : decide (c = 34) with
   | false => rw [h1] at h; cases h
   | true =>
    rw [h1] at h
    simp only [cond_true] at h
    cases h2 : strP true r with
    | none => rw [h2] at h; cases h
    | some q =>
     obtain ⟨t, u⟩ := q
     have := strP_back _ r t u rfl h2
     rw [h2] at h
     simp only at h
     cases h3 : (true && !keyOk true last (some t)) with
     | true => rw [h3] at h; cases h
     | false =>
      rw [h3] at h
      simp only [cond_false] at h
      cases u with
      | nil => cases h
      | cons d u' =>
       simp only at h
       cases h4 : decide (d = 58) with
       | false => rw [h4] at h; cases h
       | true =>
        rw [h4] at h; cases h
        rw [of_decide_eq_true h1, this, of_decide_eq_true h4]
        simp [ktx, quoS]
def okH (c : UInt8) : Prop := c = 110 ∨ c = 116 ∨ c = 102 ∨ c = 34 ∨ c = 91 ∨ c = 123 ∨ c = 45 ∨ isDig c = true
theorem okH_close {c : UInt8} (h : okH c) (m : Bool) : decide (c = closeC m) = false := by
 refine decide_eq_false fun e => ?_
 subst e
 cases m <;> revert h <;> unfold okH isDig closeC <;> decide
theorem itoa_head (n : Int) : ∃ c r, Lib.itoa n = c :: r ∧ (c = 45 ∨ isDig c = true) := by
 obtain ⟨a, b, _, _⟩ := dec_facts n.natAbs
 by_cases hneg : n < 0
 ·have := Lib.itoa_neg n.natAbs (by omega)
  rw [show -(n.natAbs : Int) = n from by omega] at this
  exact ⟨45, _, this, .inl rfl⟩
 ·have := Lib.itoa_nonneg n.natAbs
  rw [show (n.natAbs : Int) = n from by omega] at this
  cases hd : Lib.decDigits n.natAbs with
  | nil => exact absurd hd b
  | cons x r =>
   rw [hd] at a
   simp only [List.all_cons, Bool.and_eq_true] at a
   exact ⟨x, r, by rw [this, hd], .inr a.1⟩
theorem leafT_head {c : TApiCell} : ∃ x r, leafT c = x :: r ∧ okH x := by
 unfold leafT
 cases decide (c.fKind = 1) with
 | true => exact ⟨_, _, rfl, .inl rfl⟩
 | false =>
 cases decide (c.fKind = 2) with
 | true => cases decide (c.fInt = 1) with
  | true => exact ⟨_, _, rfl, .inr (.inl rfl)⟩
  | false => exact ⟨_, _, rfl, .inr (.inr (.inl rfl))⟩
 | false =>
 cases decide (c.fKind = 3) with
 | true =>
  obtain ⟨x, r, e, h⟩ := itoa_head c.fInt
  exact ⟨x, r, e, by unfold okH; rcases h with h | h <;> simp [h]⟩
 | false =>
 cases decide (c.fKind = 4) with
 | true => exact ⟨_, _, rfl, .inr (.inr (.inr (.inl rfl)))⟩
 | false => cases decide (c.fKind = 6) with
  | true => exact ⟨_, _, rfl, .inr (.inr (.inr (.inr (.inr (.inl rfl)))))⟩
  | false => exact ⟨_, _, rfl, .inr (.inr (.inr (.inr (.inl rfl))))⟩
theorem one_head {f : Fo} (h : f.one = true) : ∃ x r, f.txt true = x :: r ∧ okH x := by
 cases f with
 | nil => cases h
 | cell k c s => cases k with
  | some _ => cases h
  | none => cases s with
   | nil =>
    obtain ⟨x, r, e, ho⟩ := leafT_head (c := c)
    exact ⟨x, r, by simp [Fo.txt, sepT, ktx, e], ho⟩
   | _ => cases h
 | node k c kids s => cases k with
  | some _ => cases h
  | none => cases s with
   | nil =>
    simp only [Fo.txt, sepT, ktx, cond_true, List.nil_append, List.append_nil]
    unfold brk
    cases decide (c.fKind = 6) with
    | true => exact ⟨_, _, rfl, .inr (.inr (.inr (.inr (.inr (.inl rfl)))))⟩
    | false => exact ⟨_, _, rfl, .inr (.inr (.inr (.inr (.inl rfl))))⟩
   | _ => cases h
theorem txt_head {m : Bool} {last : Option Str} {g : Fo} (hw : g.wf m last = true) (hn : g ≠ .nil) : ∃ x r, g.txt true = x :: r ∧ okH x := by
 rcases as_put hw with h | ⟨k, f, r, rfl, h1, _⟩
 ·exact absurd h hn
 ·rw [put_txt h1]
  cases k with
  | none =>
   obtain ⟨x, y, e, ho⟩ := one_head h1
   exact ⟨x, y ++ r.txt false, by simp [sepT, ktx, e], ho⟩
  | some s => exact ⟨34, _, by simp [sepT, ktx, quoS]; rfl, .inr (.inr (.inr (.inl rfl)))⟩
theorem pre_ne {a b : UInt8} {x y : Str} (h : a ≠ b) : pre (a :: x) (b :: y) = none := by
 rw [pre, decide_eq_false h]; rfl
theorem par_other {F : Nat} {c : UInt8} {r : Str} (h1 : c ≠ 110) (h2 : c ≠ 116) (h3 : c ≠ 102) : par true (F + 1) (c :: r) =
  bif decide (c = 34) then (match strP true r with
   | none => none
   | some (t, u) => some (lf 4 0 t, u)) else
  bif decide (c = 91) || decide (c = 123) then (match r with
   | [] => none
   | d :: r' => bif decide (d = closeC (decide (c = 123))) then some (nd (decide (c = 123)) .nil, r') else (match parL true F (decide (c = 123)) none (d :: r') with
    | none => none
    | some (g, u) => some (nd (decide (c = 123)) g, u))) else
  intP (c :: r) := by
 rw [par_succ, pre_ne (Ne.symm h1), pre_ne (Ne.symm h2), pre_ne (Ne.symm h3)]; rfl
theorem par_leaf {F : Nat} {c : TApiCell} {w : Str} (hp : pl c = true) (hn : decide (0 < c.fN) = false) (ho : outC c = false) (hw : ∀ x r, w = x :: r → isDig x = false) : par true (F + 1) (leafT c ++ w) = some (.cell none c .nil, w) := by
 have hN := pl_N hp
 have h0 : c.fN = 0 := by simp only [decide_eq_false_iff_not] at hn; omega
 cases c with
 | mk k n s N =>
 simp only at h0; subst h0
 unfold leafT
 by_cases k1 : k = 1
 ·subst k1
  simp [pl] at hp
  obtain ⟨rfl, rfl⟩ := hp
  show par true (F + 1) ([110, 117, 108, 108] ++ w) = _
  rw [par_succ, pre_app]; rfl
 by_cases k2 : k = 2
 ·subst k2
  simp [pl] at hp
  obtain ⟨hb, rfl⟩ := hp
  rcases hb with rfl | rfl
  ·show par true (F + 1) ([102, 97, 108, 115, 101] ++ w) = _
   rw [par_succ, pre_app]; rfl
  ·show par true (F + 1) ([116, 114, 117, 101] ++ w) = _
   rw [par_succ, pre_app]; rfl
 by_cases k3 : k = 3
 ·subst k3
  simp [pl] at hp
  subst hp
  show par true (F + 1) (Lib.itoa n ++ w) = _
  obtain ⟨x, r, e, hx⟩ := itoa_head n
  have hx2 : 45 ≤ x.toNat ∧ x.toNat ≤ 57 := by
   rcases hx with rfl | hx
   ·decide
   ·simp [isDig] at hx; omega
  have hne : ∀ y : UInt8, 57 < y.toNat ∨ y.toNat < 45 → x ≠ y := fun y hy e => by subst e; omega
  rw [e, List.cons_append, par_other (hne 110 (by decide)) (hne 116 (by decide)) (hne 102 (by decide)), decide_eq_false (hne 34 (by decide)), decide_eq_false (hne 91 (by decide)), decide_eq_false (hne 123 (by decide))]
  simp only [Bool.or_self, cond_false]
  rw [← List.cons_append, ← e]
  simp [outC] at ho
  exact intP_itoa (by omega) (by omega) hw
 by_cases k4 : k = 4
 ·subst k4
  simp [pl] at hp
  obtain ⟨rfl, hs⟩ := hp
  have e : (bif decide ((4 : Int) = 1) then ([110, 117, 108, 108] : Str) else bif decide ((4 : Int) = 2) then (bif decide ((0 : Int) = 1) then [116, 114, 117, 101] else [102, 97, 108, 115, 101]) else bif decide ((4 : Int) = 3) then Lib.itoa 0 else bif decide ((4 : Int) = 4) then quoS s else bif decide ((4 : Int) = 6) then [123, 125] else [91, 93]) = quoS s := rfl
  show par true (F + 1) (quoS s ++ w) = _
  have e2 : quoS s ++ w = 34 :: (escS s ++ 34 :: w) := by simp [quoS]
  rw [e2, par_other (by decide) (by decide) (by decide), decide_eq_true rfl]
  simp only [cond_true]
  rw [strP_esc s w (by rw [List.all_eq_true]; exact hs)]; rfl
 by_cases k5 : k = 5
 ·subst k5
  simp [pl] at hp
  obtain ⟨rfl, rfl⟩ := hp
  show par true (F + 1) (91 :: 93 :: w) = _
  rw [par_other (by decide) (by decide) (by decide)]; rfl
 by_cases k6 : k = 6
 ·subst k6
  simp [pl] at hp
  obtain ⟨rfl, rfl⟩ := hp
  show par true (F + 1) (123 :: 125 :: w) = _
  rw [par_other (by decide) (by decide) (by decide)]; rfl
 exfalso
 simp [pl, k1, k2, k3, k4, k5, k6] at hp
theorem close_dig (m : Bool) : isDig (closeC m) = false := by cases m <;> decide
theorem txt_par : ∀ n : Nat, (∀ f : Fo, f.flat.length = n → f.one = true → f.wf false none = true → f.flat.any outC = false → ∀ (F : Nat) (w : Str), 2 * n ≤ F → (∀ x r, w = x :: r → isDig x = false) → par true F (f.txt true ++ w) = some (f, w)) ∧
  (∀ (g : Fo) (m : Bool) (last : Option Str), g.flat.length = n → g ≠ .nil → g.wf m last = true → g.flat.any outC = false → ∀ (F : Nat) (w : Str), 2 * n + 1 ≤ F → parL true F m last (g.txt true ++ closeC m :: w) = some (g, w)) := by
 intro n
 induction n using Nat.strongRecOn with
 | ind n ih =>
  have hP : ∀ f : Fo, f.flat.length = n → f.one = true → f.wf false none = true → f.flat.any outC = false → ∀ (F : Nat) (w : Str), 2 * n ≤ F → (∀ x r, w = x :: r → isDig x = false) → par true F (f.txt true ++ w) = some (f, w) := by
   intro f hn h1 hw ho F w hF hd
   have hl := one_flat h1
   obtain ⟨F, rfl⟩ : ∃ K, F = K + 1 := ⟨F - 1, by omega⟩
   cases f with
   | nil => cases h1
   | cell k c s => cases k with
    | some _ => cases h1
    | none => cases s with
     | nil =>
      simp only [Fo.wf, Bool.and_eq_true, Bool.not_eq_true'] at hw
      simp [Fo.flat, keyC] at ho
      have e : (Fo.cell none c .nil).txt true = leafT c := by simp [Fo.txt, sepT, ktx]
      rw [e]
      exact par_leaf hw.1.1.2 hw.1.2 ho hd
     | _ => cases h1
   | node k c kids s => cases k with
    | some _ => cases h1
    | none => cases s with
     | nil =>
      simp only [Fo.wf, Bool.and_eq_true, decide_eq_true_eq] at hw
      obtain ⟨⟨⟨⟨⟨w1, w2⟩, w3⟩, w5⟩, w6⟩, w4⟩ := hw
      have hfl : (Fo.node none c kids .nil).flat = c :: kids.flat := by simp [Fo.flat, keyC]
      rw [hfl] at hn ho
      simp only [List.length_cons] at hn
      simp only [List.any_cons, Bool.or_eq_false_iff] at ho
      have hne : kids ≠ .nil := fun e => by subst e; simp [Fo.cnt] at w5; omega
      obtain ⟨x, r, ex, hx⟩ := txt_head w6 hne
      obtain ⟨h56, hi, hs⟩ := pl_node w2 w3
      have e : (Fo.node none c kids .nil).txt true = brk c (kids.txt true) := by simp [Fo.txt, sepT, ktx]
      have ih2 := (ih kids.flat.length (by omega)).2 kids (decide (c.fKind = 6)) none rfl hne w6 ho.2 F w (by omega)
      have hnd : nd (decide (c.fKind = 6)) kids = .node none c kids .nil := by
       unfold nd
       rw [decide_eq_false (by omega)]
       cases c with
       | mk a1 a2 a3 a4 =>
        simp only at h56 hi hs w5 ⊢
        subst hi; subst hs; subst w5
        rcases h56 with rfl | rfl <;> rfl
      rw [e]
      unfold brk
      cases hm : decide (c.fKind = 6) with
      | true =>
       rw [hm] at ih2 hnd
       have e3 : (bif true then 123 :: (kids.txt true ++ [125]) else 91 :: (kids.txt true ++ [93])) ++ w = (bif true then (123 : UInt8) else 91) :: (x :: (r ++ 125 :: w)) := by simp [ex]
       have ih3 : parL true F true none (x :: (r ++ 125 :: w)) = some (kids, w) := by rw [ex] at ih2; exact ih2
       rw [e3, par_91, brkP_cons, okH_close hx true, cond_false, ih3]
       show some (nd true kids, w) = _
       rw [hnd]
      | false =>
       rw [hm] at ih2 hnd
       have e3 : (bif false then 123 :: (kids.txt true ++ [125]) else 91 :: (kids.txt true ++ [93])) ++ w = (bif false then (123 : UInt8) else 91) :: (x :: (r ++ 93 :: w)) := by simp [ex]
       have ih3 : parL true F false none (x :: (r ++ 93 :: w)) = some (kids, w) := by rw [ex] at ih2; exact ih2
       rw [e3, par_91, brkP_cons, okH_close hx false, cond_false, ih3]
       show some (nd false kids, w) = _
       rw [hnd]
     | _ => cases h1
  refine ⟨hP, ?_⟩
  intro g m last hn hne hw ho F w hF
  rcases as_put hw with h | ⟨k, f, r, rfl, h1, h2, h3, h4⟩
  ·exact absurd h hne
  obtain ⟨F, rfl⟩ : ∃ K, F = K + 1 := ⟨F - 1, by omega⟩
  have hl := one_flat h1
  rw [put_flat h1, List.length_append, List.length_append] at hn
  rw [put_any h1, Bool.or_eq_false_iff] at ho
  rw [put_txt h1, parL_succ]
  have e : (sepT true ++ (ktx k ++ (f.txt true ++ r.txt false))) ++ closeC m :: w = ktx k ++ (f.txt true ++ (r.txt false ++ closeC m :: w)) := by simp [sepT]
  rw [e, keyP_ktx h3]
  simp only
  have hpar : ∀ v : Str, (∀ x y, v = x :: y → isDig x = false) → par true F (f.txt true ++ v) = some (f, v) := fun v hv => by
   rcases Nat.lt_or_ge f.flat.length n with hlt | hge
   ·exact (ih f.flat.length hlt).1 f rfl h1 h2 ho.1 F v (by omega) hv
   ·exact hP f (by omega) h1 h2 ho.1 F v (by omega) hv
  by_cases hr : r = .nil
  ·subst hr
   rw [hpar _ (fun x y e => by simp [Fo.txt] at e; rw [← e.1]; exact close_dig m)]
   simp [Fo.txt]
  ·rw [txt_next h4 hr, List.cons_append, hpar _ (fun x y e => by cases e; decide)]
   simp only
   have h44 : decide ((44 : UInt8) = closeC m) = false := by cases m <;> decide
   have := (ih r.flat.length (by omega)).2 r m k rfl hr h4 ho.2 F w (by omega)
   rw [h44, this]; rfl
theorem par_back : ∀ F : Nat, (∀ s f u, par true F s = some (f, u) → f.flat.any outC = false → s = f.txt true ++ u) ∧ (∀ m last s g u, parL true F m last s = some (g, u) → g.flat.any outC = false → s = g.txt true ++ closeC m :: u)
 | 0 => ⟨(fun s f u h => by rw [par.eq_def] at h; cases h), (fun m last s g u h => by rw [parL.eq_def] at h; cases h)⟩
 | F + 1 => by
  obtain ⟨ih1, ih2⟩ := par_back F
  obtain ⟨pl1, pl2⟩ := par_len true F
  constructor
  ·intro s f u h ho
   rw [par_succ] at h
   cases h1 : pre [110, 117, 108, 108] s with
   | some r => rw [h1] at h; cases h; rw [pre_len h1]; rfl
   | none =>
   rw [h1] at h; simp only at h
   cases h2 : pre [116, 114, 117, 101] s with
   | some r => rw [h2] at h; cases h; rw [pre_len h2]; rfl
   | none =>
   rw [h2] at h; simp only at h
   cases h3 : pre [102, 97, 108, 115, 101] s with
   | some r => rw [h3] at h; cases h; rw [pre_len h3]; rfl
   | none =>
   rw [h3] at h; simp only at h
   cases s with
   | nil => cases h
   | cons c r =>
    simp only at h
    cases h4 : decide (c = 34) with
    | true =>
     rw [h4] at h
     simp only [cond_true] at h
     cases h5 : strP true r with
     | none => rw [h5] at h; cases h
     | some q =>
      obtain ⟨t, u'⟩ := q
      rw [h5] at h; cases h
      rw [of_decide_eq_true h4, strP_back _ r t _ rfl h5]
      simp [lf, Fo.txt, sepT, ktx, leafT, quoS]
    | false =>
    rw [h4] at h
    simp only [cond_false] at h
    cases h5 : (decide (c = 91) || decide (c = 123)) with
    | true =>
     rw [h5] at h
     simp only [cond_true] at h
     have hopen : ∀ x : Str, (c :: x) = (bif decide (c = 123) then (123 : UInt8) else 91) :: x := fun x => by
      cases h6 : decide (c = 123) with
      | true => rw [of_decide_eq_true h6]; rfl
      | false => rw [h6, Bool.or_false] at h5; rw [of_decide_eq_true h5]; rfl
     rw [hopen]
     generalize decide (c = 123) = m at *
     cases r with
     | nil => cases h
     | cons d r' =>
      simp only at h
      cases h6 : decide (d = closeC m) with
      | true =>
       rw [h6] at h; cases h
       rw [of_decide_eq_true h6]
       cases m <;> simp [nd, Fo.cnt, Fo.txt, sepT, ktx, leafT, closeC]
      | false =>
       rw [h6] at h
       simp only [cond_false] at h
       cases h7 : parL true F m none (d :: r') with
       | none => rw [h7] at h; cases h
       | some q =>
        obtain ⟨g, u'⟩ := q
        rw [h7] at h; cases h
        have hc := (pl2 _ _ _ _ _ h7).2
        rw [nd_flat _ _ cnt_nil, List.any_cons, Bool.or_eq_false_iff] at ho
        rw [ih2 _ _ _ _ _ h7 ho.2]
        unfold nd
        rw [decide_eq_false (by omega)]
        cases m <;> simp [Fo.txt, sepT, ktx, brk, closeC]
    | false =>
     rw [h5] at h
     simp only [cond_false] at h
     obtain ⟨n, rfl, hb⟩ := intP_back h
     have ho' : outC ⟨3, n, [], 0⟩ = false := by simpa [Fo.flat, keyC] using ho
     rw [hb ho']
     simp [Fo.txt, sepT, ktx, leafT]
  ·intro m last s g u h ho
   rw [parL_succ] at h
   cases h1 : keyP true m last s with
   | none => rw [h1] at h; cases h
   | some q =>
    obtain ⟨key, s1⟩ := q
    rw [h1] at h; simp only at h
    cases h2 : par true F s1 with
    | none => rw [h2] at h; cases h
    | some q =>
     obtain ⟨f, s2⟩ := q
     have hone := (pl1 _ _ _ h2).2
     rw [h2] at h; simp only at h
     cases s2 with
     | nil => cases h
     | cons c s3 =>
      simp only at h
      cases h3 : decide (c = closeC m) with
      | true =>
       rw [h3] at h; cases h
       rw [put_any hone, Bool.or_eq_false_iff] at ho
       rw [keyP_back h1, ih1 _ _ _ h2 ho.1, put_txt hone, of_decide_eq_true h3]
       simp [sepT, Fo.txt]
      | false =>
       rw [h3] at h
       simp only [cond_false] at h
       cases h4 : decide (c = 44) with
       | false => rw [h4] at h; cases h
       | true =>
        rw [h4] at h
        simp only [cond_true] at h
        cases h5 : parL true F m key s3 with
        | none => rw [h5] at h; cases h
        | some q =>
         obtain ⟨g', w⟩ := q
         rw [h5] at h; cases h
         have hc := (pl2 _ _ _ _ _ h5).2
         rw [put_any hone, Bool.or_eq_false_iff] at ho
         have e5 := ih2 _ _ _ _ _ h5 ho.2
         have e6 : g'.txt false = 44 :: g'.txt true := by
          cases g' with
          | nil => simp [Fo.cnt] at hc
          | cell k c r => simp [Fo.txt, sepT]
          | node k c kids r => simp [Fo.txt, sepT]
         rw [keyP_back h1, ih1 _ _ _ h2 ho.1, put_txt hone, of_decide_eq_true h4, e5, e6]
         simp [sepT]
end Go.Proofs.YtpmiamphppcfeaaDoor

/-
 Texts of values read and written again; cells compared. Plain laws (for seats that lack the rest of the package value).
-/
namespace Go.Proofs.YtpmiamphppcfeaaDoor
open Go Go.RowKit
set_option linter.unusedVariables false
set_option linter.unusedSimpArgs false
theorem errF_inv {f : Fo} (h : errF f = 0) : f.flat.any outC = false ∧ f.flat.any longC = false ∧ f.flat.length ≤ 200 ∧ f.dep ≤ 8 ∧ (f.txt true).length ≤ 4000 := by
 unfold errF at h
 cases h1 : f.flat.any outC with
 | true => rw [h1] at h; cases h
 | false =>
  rw [h1] at h
  cases h2 : (f.flat.any longC || (decide (200 < f.flat.length) || (decide (8 < f.dep) || decide (4000 < (f.txt true).length)))) with
  | true => rw [h2] at h; cases h
  | false =>
   simp only [Bool.or_eq_false_iff, decide_eq_false_iff_not] at h2
   exact ⟨rfl, h2.1, by omega, by omega, by omega⟩
theorem errV_of {f : Fo} (h1 : f.one = true) (hw : f.wf false none = true) (he : errF f = 0) : errV f.flat = 0 := by
 unfold errV; rw [whole_of h1 hw]; exact he
theorem par_wf {F : Nat} {s u : Str} {f : Fo} (h : par true F s = some (f, u)) : f.wf false none = true := by
 have := ((par_rel F).1 s).1
 rw [h] at this
 cases h2 : par false F s with
 | none => rw [h2] at this; cases this
 | some q =>
  obtain ⟨g, w⟩ := q
  rw [h2] at this
  simp only at this
  cases hw : g.wf false none with
  | true => rw [hw] at this; cases this; exact hw
  | false => rw [hw] at this; cases this
theorem enc_dec {v : List TApiCell} (h : (encV v).2 = 0) : decV (encV v).1 = some (v, 0) := by
 unfold encV at h ⊢
 cases hw : whole v with
 | none => rw [hw] at h; cases h
 | some f =>
  rw [hw] at h
  simp only at h
  cases he : decide (errF f = 0) with
  | false => rw [he] at h; exact absurd h (of_decide_eq_false he)
  | true =>
   obtain ⟨x1, x2, x3⟩ := whole_some hw
   obtain ⟨h1, h2, h3, h4, h5⟩ := errF_inv (of_decide_eq_true he)
   have hp := (txt_par f.flat.length).1 f rfl x3 x2 h1 10000 [] (by omega) (fun x r e => by cases e)
   rw [List.append_nil] at hp
   simp only [he]
   show decV (f.txt true) = _
   unfold decV
   rw [decide_eq_false (by omega), cond_false, hp]
   simp only
   rw [he, x1]; rfl
theorem dec_enc {s : Str} {r : List TApiCell × Int} (h : decV s = some r) (h0 : r.2 = 0) : CkA 4000 r.1 ∧ encV r.1 = (s, 0) ∧ errV r.1 = 0 := by
 unfold decV at h
 cases h4 : decide (4000 < s.length) with
 | true => rw [h4] at h; cases h; cases h0
 | false =>
  rw [h4] at h
  simp only [decide_eq_false_iff_not] at h4
  simp only [cond_false] at h
  cases hp : par true 10000 s with
  | none => rw [hp] at h; cases h; cases h0
  | some q =>
   obtain ⟨f, w⟩ := q
   rw [hp] at h
   cases w with
   | cons _ _ => cases h; cases h0
   | nil =>
    simp only [Option.some.injEq] at h
    subst h
    cases he : decide (errF f = 0) with
    | false => rw [he] at h0; exact absurd h0 (of_decide_eq_false he)
    | true =>
     have hf := of_decide_eq_true he
     have hw := par_wf hp
     have hone := ((par_len true 10000).1 _ _ _ hp).2
     have hcells := (par_cells true 4000 10000).1 _ _ _ (by omega) hp
     have hfl := (par_flat true 10000).1 _ _ _ hp
     obtain ⟨h1, h2, h3, _⟩ := errF_inv hf
     have hb := (par_back 10000).1 _ _ _ hp h1
     rw [List.append_nil] at hb
     refine ⟨⟨by decide, by show f.flat.length ≤ 4000; omega, fun c hc => ?_⟩, ?_, errV_of hone hw hf⟩
     ·obtain ⟨a, b, c'⟩ := hcells c hc
      exact ⟨a, b, by omega⟩
     ·show encV f.flat = _
      unfold encV
      rw [whole_of hone hw]
      simp only
      rw [he, hb]; rfl
theorem decV_some (s : Str) : ∃ r, decV s = some r := by
 unfold decV
 cases decide (4000 < s.length) with
 | true => exact ⟨_, rfl⟩
 | false =>
  simp only [cond_false]
  split <;> exact ⟨_, rfl⟩
theorem take_eq_len {α : Type} {a b : List α} {n : Nat} (h : a.take n = b.take n) (h1 : a.length ≤ n) (h2 : b.length ≤ n) : a = b := by
 rw [List.take_of_length_le h1, List.take_of_length_le h2] at h; exact h
theorem slEqual_eq {F : Nat} {a b : List TApiCell} (hF : a.length < F) (hv : a.length ≤ 1152921504606846976) : slEqual F a b = some (decide (a = b)) := by
 unfold slEqual
 by_cases hl : (a.length : Int) = (b.length : Int)
 ·rw [cnd_ff (by simp [hl])]
  obtain ⟨o, h1, h2⟩ := lop_ind (body := fun σ => slEqual_b1 a b σ) (fun x => 0 ≤ x ∧ x ≤ (a.length : Int) ∧ a.take x.toNat = b.take x.toNat) (fun x => a.length - x.toNat) (fun o => oute (fun _ => slEqual_k1) o = some (decide (a = b))) (fun x ⟨h0, hx, ht⟩ => by
   by_cases h : x < (a.length : Int)
   ·have hb : x < (b.length : Int) := by omega
    obtain ⟨c, hc⟩ : ∃ c, a[x.toNat]? = some c := ⟨a[x.toNat]'(by omega), List.getElem?_eq_getElem (by omega)⟩
    obtain ⟨d, hd⟩ : ∃ d, b[x.toNat]? = some d := ⟨b[x.toNat]'(by omega), List.getElem?_eq_getElem (by omega)⟩
    have ac : at' a x = c := by simp [at', hc]
    have bd : at' b x = d := by simp [at', hd]
    have heq : (decide (c.fKind = d.fKind) && decide (c.fInt = d.fInt) && decide (c.fStr = d.fStr) && decide (c.fN = d.fN)) = decide (c = d) := by
     cases c; cases d
     rw [Bool.eq_iff_iff]
     simp only [TApiCell.mk.injEq, Bool.and_eq_true, decide_eq_true_eq]
     constructor
     ·rintro ⟨⟨⟨h1, h2⟩, h3⟩, h4⟩; exact ⟨h1, h2, h3, h4⟩
     ·rintro ⟨h1, h2, h3, h4⟩; exact ⟨⟨⟨h1, h2⟩, h3⟩, h4⟩
    have hb1 : slEqual_b1 a b x = cnd (!decide (c = d)) (some (.out (.ret false))) (some (.next (x + 1))) := by
     unfold slEqual_b1
     rw [cnd_tt (decide_eq_true h), chk_inR h0 h, chk_inR h0 hb, ac, bd, heq, chk_i64 (by omega) (by omega)]
    by_cases hcd : c = d
    ·refine .inl ⟨x + 1, hb1.trans (by rw [cnd_ff (by simp [hcd])]), ⟨by omega, by omega, ?_⟩, by omega⟩
     rw [show (x + 1).toNat = x.toNat + 1 from by omega, List.take_add_one, List.take_add_one, ht, hc, hd, hcd]
    ·refine .inr ⟨.ret false, hb1.trans (by rw [cnd_tt (by simp [hcd])]), ?_⟩
     rw [oute_ret, decide_eq_false]
     intro e; subst e; rw [hc] at hd; cases hd; exact hcd rfl
   ·refine .inr ⟨.go (), by unfold slEqual_b1; rw [cnd_ff (decide_eq_false h)], ?_⟩
    rw [oute_go, decide_eq_true (take_eq_len ht (by omega) (by omega))]; rfl) F 0 ⟨Int.le_refl 0, by omega, rfl⟩ (by show a.length - 0 < F; omega)
  rw [obn_s h1, h2]
 ·rw [cnd_tt (by simp [hl]), decide_eq_false]
  intro e; subst e; exact hl rfl
section
variable {M : Nat} {v : List TApiCell}
end
end Go.Proofs.YtpmiamphppcfeaaDoor

/-
 Events: Check, Encode and Decode of the package and of its reference. Plain laws.
-/
namespace Go.Proofs.YtpmiamphppcfeaaDoor
open Go
set_option linter.unusedVariables false
set_option linter.unusedSimpArgs false
structure EvA (M : Nat) (e : TApiEvent) : Prop where
 hb : CkA M e.fBody
 h1 : e.fID.length ≤ 1000000
 h2 : e.fTenant.length ≤ 1000000
 h3 : e.fSource.length ≤ 1000000
 h4 : e.fKey.length ≤ 1000000
 h5 : e.fCause.length ≤ 1000000
 h6 : -9223372036854775808 ≤ e.fAt ∧ e.fAt ≤ 9223372036854775807
def optS (s : Str) : Bool := decide (s = []) || idS s
def idsE (e : TApiEvent) : Bool := idS e.fID && (idS e.fTenant && (idS e.fSource && (optS e.fKey && optS e.fCause)))
def errE (e : TApiEvent) : Int := bif !idsE e then 4 else bif decide (e.fAt < 0) || decide (1073741824 < e.fAt) then 2 else errV e.fBody
theorem eCheck_eq {M : Nat} {e : TApiEvent} (hA : EvA M e) (hM : M ≤ 4000) : eCheck 20000 e = some (errE e) := by
 unfold eCheck errE
 rw [vCheck_eq hA.hb (by omega) (by omega)]
 have key : ((!(idS e.fID)) || ((!(idS e.fTenant)) || ((!(idS e.fSource)) || (bif !decide (e.fKey = ([] : Str)) then ((!(idS e.fKey)) || ((!decide (e.fCause = ([] : Str))) && (!(idS e.fCause)))) else ((!decide (e.fCause = ([] : Str))) && (!(idS e.fCause))))))) = !idsE e := by
  unfold idsE optS
  cases idS e.fID <;> cases idS e.fTenant <;> cases idS e.fSource <;> cases decide (e.fKey = []) <;> cases idS e.fKey <;> cases decide (e.fCause = []) <;> cases idS e.fCause <;> rfl
 rw [key]
 cases idsE e with
 | false => rfl
 | true =>
  rw [cnd_ff (p := !true) rfl]
  cases (decide (e.fAt < 0) || decide (1073741824 < e.fAt)) <;> rfl
theorem imp_c (a : Bool) {b : Bool} (h : b = true) : imp a b = true := by subst h; exact imp_tt a
theorem in1 {n : Nat} (h : n ≤ 1000000) : inA 1 n = true := decide_eq_true (by omega)
theorem encV_err (v : List TApiCell) : (encV v).2 = errV v := by
 unfold encV errV
 cases whole v with
 | none => rfl
 | some f =>
  simp only
  cases h : decide (errF f = 0) with
  | true => rw [of_decide_eq_true h]; rfl
  | false => rfl
def fieldsE (e : TApiEvent) : List Str := [e.fID, e.fTenant, e.fSource, e.fKey, Lib.itoa e.fAt, e.fCause, (encV e.fBody).1]
def encE (e : TApiEvent) : Str × Int := bif decide (errE e = 0) then packV (fieldsE e) else ([], errE e)
theorem errE_body {e : TApiEvent} (h : errE e = 0) : idsE e = true ∧ 0 ≤ e.fAt ∧ e.fAt ≤ 1073741824 ∧ errV e.fBody = 0 := by
 unfold errE at h
 cases h1 : idsE e with
 | false => rw [h1] at h; cases h
 | true =>
  rw [h1] at h
  cases h2 : (decide (e.fAt < 0) || decide (1073741824 < e.fAt)) with
  | true => rw [h2] at h; cases h
  | false =>
   rw [h2] at h
   simp only [Bool.or_eq_false_iff, decide_eq_false_iff_not] at h2
   exact ⟨rfl, by omega, by omega, h⟩
theorem eEncode_eq {M : Nat} {e : TApiEvent} (hA : EvA M e) (hM : M ≤ 4000) : eEncode 20000 e = some (encE e) := by
 unfold eEncode encE
 rw [eCheck_eq hA hM, obn_s rfl]
 cases h : decide (errE e = 0) with
 | false => rfl
 | true =>
  obtain ⟨_, h1, h2, h3⟩ := errE_body (of_decide_eq_true h)
  rw [cnd_ff (p := !true) rfl, vEncode_eq hA.hb (by omega) (by omega), obn_s rfl, encV_err, h3, cnd_ff (by decide), chk_i64 (by omega) (by omega), fPack_eq (by decide), obn_s rfl]
  rfl
/-! ### Decode -/
def zE : TApiEvent := TApiEvent.mk [] [] [] [] 0 [] []
def mkE (l : List Str) (b : List TApiCell) : TApiEvent := TApiEvent.mk (at' l 0) (at' l 1) (at' l 2) (at' l 3) (parseV (at' l 4)) (at' l 5) b
def finE (l : List Str) (r : List TApiCell × Int) : TApiEvent × Int :=
 bif !decide (r.2 = 0) then (zE, r.2) else bif !decide (errE (mkE l r.1) = 0) then (zE, errE (mkE l r.1)) else (mkE l r.1, 0)
def decE (s : Str) : TApiEvent × Int :=
 bif !decide ((unpV s).2 = 0) then (zE, (unpV s).2) else bif !decide (((unpV s).1.length : Int) = 7) then (zE, 13)
 else bif !decide (parseE (at' (unpV s).1 4) = 0) then (zE, parseE (at' (unpV s).1 4)) else finE (unpV s).1 (ov (decV (at' (unpV s).1 6)))
theorem decV_ck {s : Str} {r : List TApiCell × Int} (h : decV s = some r) : CkA 4000 r.1 := by
 by_cases h0 : r.2 = 0
 ·exact (dec_enc h h0).1
 ·have : r.1 = [] := by
   unfold decV at h
   cases h4 : decide (4000 < s.length) with
   | true => rw [h4] at h; cases h; rfl
   | false =>
    rw [h4] at h
    simp only [cond_false] at h
    split at h
    ·rename_i f _
     cases he : decide (errF f = 0) with
     | true => rw [he] at h; cases h; exact absurd rfl h0
     | false => rw [he] at h; cases h; rfl
    ·cases h; rfl
  rw [this]
  exact ⟨by decide, by simp, fun c hc => by cases hc⟩
theorem at_len {l : List Str} (h : ∀ f ∈ l, f.length ≤ 4000) (i : Int) : (at' l i).length ≤ 4000 := by
 unfold at'
 cases hi : l[i.toNat]? with
 | none => exact Nat.zero_le _
 | some f => exact h f (List.mem_of_getElem? hi)
theorem mkE_A {l : List Str} (h : ∀ f ∈ l, f.length ≤ 4000) {b : List TApiCell} (hb : CkA 4000 b) : EvA 4000 (mkE l b) :=
 ⟨hb, Nat.le_trans (at_len h 0) (by decide), Nat.le_trans (at_len h 1) (by decide), Nat.le_trans (at_len h 2) (by decide), Nat.le_trans (at_len h 3) (by decide), Nat.le_trans (at_len h 5) (by decide), by have := parse_bd (at' l 4); exact ⟨by show _ ≤ parseV (at' l 4); omega, by show parseV (at' l 4) ≤ _; omega⟩⟩
theorem eDecode_eq {s : Str} (hs : s.length ≤ 1000000) : eDecode 20000 s = some (decE s) := by
 unfold eDecode decE
 rw [fUnpack_eq (by decide) (by omega), obn_s rfl]
 cases h1 : decide ((unpV s).2 = 0) with
 | false => rfl
 | true =>
  have hsm : ∀ f ∈ (unpV s).1, f.length ≤ 4000 := fun f hf => unp_small hf (of_decide_eq_true h1)
  rw [cnd_ff (p := !true) rfl]
  generalize (unpV s).1 = l at *
  cases h2 : decide ((l.length : Int) = 7) with
  | false => rfl
  | true =>
   have h7 := of_decide_eq_true h2
   have e4 := at_len hsm 4
   rw [cnd_ff (p := !true) rfl, chk_inR (by omega) (by omega), chk_t (in1 (by omega))]
   cases h3 : decide (parseE (at' l 4) = 0) with
   | false => rfl
   | true =>
    obtain ⟨r, hr⟩ := decV_some (at' l 6)
    rw [cnd_ff (p := !true) rfl, chk_inR (by omega) (by omega), vDecode_eq, hr, obn_s rfl, ov_some]
    simp only [Bool.not_true, cond_false]
    unfold finE
    cases h4 : decide (r.2 = 0) with
    | false => rfl
    | true =>
     rw [cnd_ff (p := !true) rfl, chk_inR (by omega) (by omega), chk_inR (by omega) (by omega), chk_inR (by omega) (by omega), chk_inR (by omega) (by omega), chk_inR (by omega) (by omega)]
     have := eCheck_eq (mkE_A hsm (decV_ck hr)) (by decide)
     unfold mkE at this ⊢
     rw [this, obn_s rfl]
     simp only [Bool.not_true, cond_false]
     cases decide (errE (TApiEvent.mk (at' l 0) (at' l 1) (at' l 2) (at' l 3) (parseV (at' l 4)) (at' l 5) r.1) = 0) <;> rfl
/-! ### Same -/
theorem same_ev (a b : TApiEvent) : ((decide (a.fID = b.fID)) && ((decide (a.fTenant = b.fTenant)) && ((decide (a.fSource = b.fSource)) && ((decide (a.fKey = b.fKey)) && ((decide (a.fAt = b.fAt)) && ((decide (a.fCause = b.fCause)) && decide (a.fBody = b.fBody))))))) = decide (a = b) := by
 obtain ⟨a1, a2, a3, a4, a5, a6, a7⟩ := a
 obtain ⟨b1, b2, b3, b4, b5, b6, b7⟩ := b
 rw [Bool.eq_iff_iff]
 simp only [TApiEvent.mk.injEq, Bool.and_eq_true, decide_eq_true_eq]
theorem eSame_eq {a b : TApiEvent} (ha : a.fBody.length < 20000) : eSame 20000 a b = some (decide (a = b)) := by
 unfold eSame
 rw [slEqual_eq ha (by omega)]
 simp only [Option.isSome_some]
 rw [chk_t (imp_c _ (imp_c _ (imp_c _ (imp_c _ (imp_c _ (imp_c _ rfl)))))), ov_some, same_ev]
theorem evAwake_ok : evAwake 20000 = some true := by decide +kernel
end Go.Proofs.YtpmiamphppcfeaaDoor

/-
 Events: sizes, children, orders and lineages, of the package and of its reference. Plain laws.
-/
namespace Go.Proofs.YtpmiamphppcfeaaDoor
open Go
set_option linter.unusedVariables false
set_option linter.unusedSimpArgs false
/-! ### Sizes -/
def smallB (v : List TApiCell) : Bool := !decide (250 < v.length) && v.all fun c => !decide (250 < c.fStr.length)
theorem evBody_eq {F : Nat} {v : List TApiCell} (hF : 250 < F) : evBody F v = some (smallB v) := by
 unfold evBody smallB
 have a1 : decide ((250 : Int) < (v.length : Int)) = decide (250 < v.length) := by rw [Bool.eq_iff_iff]; simp; omega
 rw [a1]
 cases hl : decide (250 < v.length) with
 | true => rfl
 | false =>
  simp only [decide_eq_false_iff_not] at hl
  rw [cnd_ff rfl]
  obtain ⟨o, h1, h2⟩ := lop_ind (body := fun σ => evBody_b1 v σ) (fun x => 0 ≤ x ∧ x ≤ (v.length : Int) ∧ (v.take x.toNat).all (fun c => !decide (250 < c.fStr.length)) = true) (fun x => v.length - x.toNat)
   (fun o => oute (fun _ => evBody_k1) o = some (v.all fun c => !decide (250 < c.fStr.length))) (fun x ⟨h0, hlx, ha⟩ => by
    by_cases hx : x < (v.length : Int)
    ·obtain ⟨c, hc⟩ : ∃ c, v[x.toNat]? = some c := ⟨v[x.toNat]'(by omega), List.getElem?_eq_getElem (by omega)⟩
     have hat : at' v x = c := by simp [at', hc]
     have a2 : decide ((250 : Int) < (c.fStr.length : Int)) = decide (250 < c.fStr.length) := by rw [Bool.eq_iff_iff]; simp; omega
     have hb : evBody_b1 v x = cnd (decide (250 < c.fStr.length)) (some (.out (.ret false))) (some (.next (x + 1))) := by
      unfold evBody_b1
      rw [cnd_tt (decide_eq_true hx), chk_inR h0 hx, hat, a2, chk_i64 (by omega) (by omega)]
     cases hq : decide (250 < c.fStr.length) with
     | true =>
      refine .inr ⟨.ret false, hb.trans (cnd_tt hq), ?_⟩
      have : v.all (fun c => !decide (250 < c.fStr.length)) = false := all_false_of hc (by simp only [hq]; rfl)
      rw [oute_ret, this]
     | false =>
      have a3 : (v.take (x + 1).toNat).all (fun c => !decide (250 < c.fStr.length)) = true := by
       rw [show (x + 1).toNat = x.toNat + 1 from by omega, take_all_succ hc, ha]; simp only [hq]; rfl
      exact .inl ⟨x + 1, hb.trans (cnd_ff hq), ⟨by omega, by omega, a3⟩, by omega⟩
    ·refine .inr ⟨.go (), by unfold evBody_b1; rw [cnd_ff (decide_eq_false hx)], ?_⟩
     rw [show x.toNat = v.length from by omega, List.take_length] at ha
     rw [oute_go, ha]; rfl) F 0 ⟨Int.le_refl 0, by omega, by simp⟩ (by show v.length - 0 < F; omega)
  rw [obn_s h1, h2]; rfl
def shortE (e : TApiEvent) : Bool := !(decide (100 < e.fID.length) || (decide (100 < e.fTenant.length) || (decide (100 < e.fSource.length) || (decide (100 < e.fKey.length) || decide (100 < e.fCause.length)))))
def smallE (e : TApiEvent) : Bool := shortE e && smallB e.fBody
theorem dec100 (f : Str) : decide ((100 : Int) < (f.length : Int)) = decide (100 < f.length) := by rw [Bool.eq_iff_iff]; simp; omega
theorem evSmall_eq {F : Nat} {e : TApiEvent} (hF : 250 < F) : evSmall F e = some (smallE e) := by
 unfold evSmall smallE
 rw [evBody_eq hF, dec100, dec100, dec100, dec100, dec100]
 unfold shortE
 cases (decide (100 < e.fID.length) || (decide (100 < e.fTenant.length) || (decide (100 < e.fSource.length) || (decide (100 < e.fKey.length) || decide (100 < e.fCause.length))))) <;> rfl
theorem CkA.ofB {v : List TApiCell} (hs : smallB v = true) (hc : v.all okCell = true) : CkA 250 v := by
 unfold smallB at hs
 simp only [Bool.and_eq_true, Bool.not_eq_true', decide_eq_false_iff_not, List.all_eq_true] at hs hc
 refine ⟨by decide, by omega, fun c h => ?_⟩
 obtain h1 := hs.2 c h
 obtain h2 := hc c h
 unfold okCell at h2
 simp only [Bool.and_eq_true] at h2
 exact ⟨by omega, h2.1.1.2, (inK_i64 h2.2).2⟩
def okEv (y : TApiEvent) : Bool := okS y.fID && okS y.fTenant && okS y.fSource && okS y.fKey && (inK .i64) y.fAt && okS y.fCause && (fun ys : (List TApiCell) => ys.all okCell && decide (ys.length ≤ 9223372036854775807)) y.fBody
theorem EvA.of {e : TApiEvent} (hs : smallE e = true) (ho : okEv e = true) : EvA 250 e := by
 unfold smallE shortE at hs
 unfold okEv at ho
 simp only [Bool.and_eq_true, Bool.not_eq_true', Bool.or_eq_false_iff, decide_eq_false_iff_not] at hs ho
 obtain ⟨⟨a1, a2, a3, a4, a5⟩, a6⟩ := hs
 exact ⟨CkA.ofB a6 ho.2.1, by omega, by omega, by omega, by omega, by omega, inK_i64 ho.1.1.2⟩
/-! ### Children -/
section
variable {M : Nat} {e : TApiEvent} {n : Int} {source : Str} {body : List TApiCell} {at_ : Int}
end
/-! ### The order -/
/-! ### Lineages -/
end Go.Proofs.YtpmiamphppcfeaaDoor

/-
 Events: what is written is read again, what is read is written again; a child and its lineage. Plain laws.
-/
namespace Go.Proofs.YtpmiamphppcfeaaDoor
open Go
set_option linter.unusedVariables false
set_option linter.unusedSimpArgs false
theorem packS_len {l : List Str} (h : okP l = true) : (packS l).length ≤ 300000 := by
 unfold okP at h
 simp only [Bool.and_eq_true, decide_eq_true_eq] at h
 have key : ∀ l : List Str, (l.all fun f => decide (f.length ≤ 4000)) = true → (l.flatMap encF).length ≤ l.length * 4002 := by
  intro l
  induction l with
  | nil => intro _; simp
  | cons f l ih =>
   intro h
   simp only [List.all_cons, Bool.and_eq_true, decide_eq_true_eq] at h
   have := ih (by simpa using h.2)
   rw [List.flatMap_cons, List.length_append, List.length_cons, Nat.succ_mul]
   simp only [encF, List.length_cons]; omega
 have h1 := key l h.2
 have h2 : l.length * 4002 ≤ 64 * 4002 := Nat.mul_le_mul_right _ h.1
 unfold packS
 rw [List.length_cons]; omega
theorem encE_ok {e : TApiEvent} (h : (encE e).2 = 0) : errE e = 0 ∧ okP (fieldsE e) = true ∧ encE e = (packS (fieldsE e), 0) := by
 unfold encE at h ⊢
 cases h1 : decide (errE e = 0) with
 | false => rw [h1] at h; exact absurd h (of_decide_eq_false h1)
 | true =>
  rw [h1] at h
  simp only [cond_true] at h ⊢
  unfold packV at h ⊢
  cases h2 : okP (fieldsE e) with
  | false => rw [h2] at h; cases h
  | true => exact ⟨of_decide_eq_true h1, rfl, rfl⟩
theorem ev_enc_dec {e : TApiEvent} (h : (encE e).2 = 0) : decE (encE e).1 = (e, 0) := by
 obtain ⟨h1, h2, h3⟩ := encE_ok h
 obtain ⟨_, a0, a1, a2⟩ := errE_body h1
 obtain ⟨p1, p2⟩ := itoa_back a0 (by omega)
 have hv : decV (encV e.fBody).1 = some (e.fBody, 0) := enc_dec (by rw [encV_err, a2])
 rw [h3]
 unfold decE
 rw [unp_pack h2]
 have e4 : at' (fieldsE e) 4 = Lib.itoa e.fAt := rfl
 have e6 : at' (fieldsE e) 6 = (encV e.fBody).1 := rfl
 have em : mkE (fieldsE e) e.fBody = e := by
  unfold mkE
  rw [e4, p2]; rfl
 simp only [e4, e6, p1, hv, ov_some, decide_true, Bool.not_true, cond_false]
 rw [show decide (((fieldsE e).length : Int) = 7) = true from rfl]
 simp only [Bool.not_true, cond_false]
 unfold finE
 simp only [decide_true, Bool.not_true, cond_false, em, h1]
theorem seven {l : List Str} (h : (l.length : Int) = 7) : ∃ a b c d e f g, l = [a, b, c, d, e, f, g] := by
 match l, h with
 | [a, b, c, d, e, f, g], _ => exact ⟨a, b, c, d, e, f, g, rfl⟩
 | [], h => simp at h
 | [_], h => simp at h
 | [_, _], h => simp at h
 | [_, _, _], h => simp at h
 | [_, _, _, _], h => simp at h
 | [_, _, _, _, _], h => simp at h
 | [_, _, _, _, _, _], h => simp at h
 | _ :: _ :: _ :: _ :: _ :: _ :: _ :: _ :: _, h => simp at h; omega
theorem ev_dec_enc {s : Str} (h : (decE s).2 = 0) : encE (decE s).1 = (s, 0) ∧ errE (decE s).1 = 0 ∧ EvA 4000 (decE s).1 := by
 unfold decE at h ⊢
 cases h1 : decide ((unpV s).2 = 0) with
 | false => rw [h1] at h; exact absurd h (of_decide_eq_false h1)
 | true =>
  rw [h1] at h
  simp only [Bool.not_true, cond_false] at h ⊢
  have hsm : ∀ f ∈ (unpV s).1, f.length ≤ 4000 := fun f hf => unp_small hf (of_decide_eq_true h1)
  obtain ⟨hok, hpk⟩ := pack_unp (s := s) (l := (unpV s).1) (by rw [← of_decide_eq_true h1])
  generalize (unpV s).1 = l at *
  cases h2 : decide ((l.length : Int) = 7) with
  | false => rw [h2] at h; cases h
  | true =>
   rw [h2] at h
   simp only [Bool.not_true, cond_false] at h ⊢
   cases h3 : decide (parseE (at' l 4) = 0) with
   | false => rw [h3] at h; exact absurd h (of_decide_eq_false h3)
   | true =>
    rw [h3] at h
    simp only [Bool.not_true, cond_false] at h ⊢
    obtain ⟨r, hr⟩ := decV_some (at' l 6)
    rw [hr, ov_some] at h ⊢
    have hA := mkE_A hsm (decV_ck hr)
    unfold finE at h ⊢
    cases h4 : decide (r.2 = 0) with
    | false => rw [h4] at h; exact absurd h (of_decide_eq_false h4)
    | true =>
     rw [h4] at h
     simp only [Bool.not_true, cond_false] at h ⊢
     cases h5 : decide (errE (mkE l r.1) = 0) with
     | false => rw [h5] at h; exact absurd h (of_decide_eq_false h5)
     | true =>
      rw [h5] at h
      simp only [Bool.not_true, cond_false] at h ⊢
      have he := of_decide_eq_true h5
      obtain ⟨_, a0, a1, a2⟩ := errE_body he
      obtain ⟨_, d2, _⟩ := dec_enc hr (of_decide_eq_true h4)
      have hp := parse_itoa (of_decide_eq_true h3) a0
      refine ⟨?_, he, hA⟩
      have hf : fieldsE (mkE l r.1) = l := by
       obtain ⟨a, b, c, d, e, f, g, rfl⟩ := seven (of_decide_eq_true h2)
       unfold fieldsE mkE
       rw [d2, hp]; rfl
      unfold encE
      rw [h5, hf]
      unfold packV
      rw [hok, hpk]; rfl
/-! ### A child -/
end Go.Proofs.YtpmiamphppcfeaaDoor

/-
 The plain law of EventRoundTrips: for all arguments whose numbers fit.
-/
namespace Go.Proofs.YtpmiamphppcfeaaDoor
open Go
set_option linter.unusedVariables false
set_option linter.unusedSimpArgs false
theorem stepT {α : Type} {p : Bool} {A : Option α} {c q : α → Bool} {Y : Option Bool} (hp : p = true → ∃ r, A = some r ∧ c r = true ∧ q r = false) : cnd p (obn A fun r => chk (c r) <| cnd (q r) (some false) Y) Y = Y := by
 cases p with
 | false => rfl
 | true =>
  obtain ⟨r, h1, h2, h3⟩ := hp rfl
  rw [cnd_tt rfl, obn_s h1, chk_t h2, cnd_ff h3]
theorem lEvTrips_law {e : TApiEvent} {s : Str} (he : okEv e = true) : lEvTrips 20000 e s = some true := by
 unfold lEvTrips
 rw [evAwake_ok, evSmall_eq (by decide)]
 simp only [Option.isSome_some, chk_t, ov_some]
 cases h1 : smallE e with
 | false => rw [cnd_tt (by simp), obn_s rfl]
 | true =>
 cases h2 : decide ((1000 : Int) < (s.length : Int)) with
 | true => rw [cnd_tt (by simp), obn_s rfl]
 | false =>
  simp only [decide_eq_false_iff_not] at h2
  have hA := EvA.of h1 he
  have hAv := hA.hb.hv
  rw [cnd_ff (by simp), eEncode_eq hA (by decide), obn_s rfl]
  rw [stepT (fun h => by
   have h0 := of_decide_eq_true h
   obtain ⟨_, k2, k3⟩ := encE_ok h0
   have hlen : (encE e).1.length ≤ 1000000 := by rw [k3]; exact Nat.le_trans (packS_len k2) (by decide)
   refine ⟨(e, 0), by rw [eDecode_eq hlen, ev_enc_dec h0], ?_, ?_⟩
   ·rw [eSame_eq (by omega)]; rfl
   ·rw [eSame_eq (by omega)]; simp [ov]), eDecode_eq (by omega), obn_s rfl]
  exact stepT (fun h => by
   obtain ⟨d1, d2, d3⟩ := ev_dec_enc (of_decide_eq_true h)
   refine ⟨(s, 0), by rw [eEncode_eq d3 (by decide), d1], ?_, ?_⟩
   ·rw [eCheck_eq d3 (by decide)]; simp [imp]
   ·rw [eCheck_eq d3 (by decide), d2]; simp [ov])
end Go.Proofs.YtpmiamphppcfeaaDoor
namespace Go.Proofs.YtpmiamphppcfeaaDoor.lawEventRoundTrips
open Go
set_option linter.unusedVariables false
theorem law : Law := fun e s h _ => ⟨20000, lEvTrips_law h⟩
end Go.Proofs.YtpmiamphppcfeaaDoor.lawEventRoundTrips
