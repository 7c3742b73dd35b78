/-
  Texts of the proof, put together: LoA, LoB, LwOrders.
-/
import Derived.Test.YtkalifgebccpcaaDoorMO4
/-
 The order of forests is total. Plain laws.
-/
namespace Go.Proofs.YtkalifgebccpcaaDoor
open Go Go.RowKit
set_option linter.unusedVariables false
set_option linter.unusedSimpArgs false
def Tr (x y z : Int) : Prop := (x ≤ 0 → y ≤ 0 → z ≤ 0) ∧ (x ≤ 0 → y ≤ 0 → x < 0 ∨ y < 0 → z < 0)
def Tri (x : Int) : Prop := x = -1 ∨ x = 0 ∨ x = 1
theorem thenI_eq (x y : Int) : thenI x y = if x = 0 then y else x := by
 by_cases h : x = 0
 ·rw [if_pos h, thenI_z (decide_eq_true h)]
 ·rw [if_neg h, thenI_nz (decide_eq_false h)]
theorem ordI_eq (a b : Int) : ordI a b = if a < b then -1 else if b < a then 1 else 0 := by
 unfold ordI
 by_cases h : a < b
 ·rw [decide_eq_true h, if_pos h]; rfl
 ·by_cases h2 : b < a
  ·rw [decide_eq_false h, decide_eq_true h2, if_neg h, if_pos h2]; rfl
  ·rw [decide_eq_false h, decide_eq_false h2, if_neg h, if_neg h2]; rfl
theorem Tr.then {x y z x' y' z' : Int} (h : Tr x y z) (h' : Tr x' y' z') : Tr (thenI x x') (thenI y y') (thenI z z') := by
 obtain ⟨a, b⟩ := h; obtain ⟨a', b'⟩ := h'
 simp only [thenI_eq]
 constructor
 ·intro p q
  by_cases hx : x = 0
  ·rw [if_pos hx] at p
   by_cases hy : y = 0
   ·rw [if_pos hy] at q
    have := a (by omega) (by omega); have := a' p q
    split <;> omega
   ·rw [if_neg hy] at q
    have := b (by omega) (by omega) (by omega)
    split <;> omega
  ·rw [if_neg hx] at p
   have : y ≤ 0 := by
    by_cases hy : y = 0
    ·omega
    ·rw [if_neg hy] at q; exact q
   have := b p this (by omega)
   split <;> omega
 ·intro p q r
  by_cases hx : x = 0
  ·rw [if_pos hx] at p r
   by_cases hy : y = 0
   ·rw [if_pos hy] at q r
    have := a (by omega) (by omega); have := b' p q r
    split <;> omega
   ·rw [if_neg hy] at q r
    have := b (by omega) (by omega) (by omega)
    split <;> omega
  ·rw [if_neg hx] at p
   have : y ≤ 0 := by
    by_cases hy : y = 0
    ·omega
    ·rw [if_neg hy] at q; exact q
   have := b p this (by omega)
   split <;> omega
theorem ordI_tr (a b c : Int) : Tr (ordI a b) (ordI b c) (ordI a c) := by
 simp only [ordI_eq, Tr]
 constructor <;> intros <;> repeat' split at * <;> omega
theorem ordI_tri (a b : Int) : Tri (ordI a b) := by
 rw [ordI_eq]; unfold Tri; split <;> (try split) <;> omega
theorem ordI_neg (a b : Int) : ordI b a = -(ordI a b) := by
 rw [ordI_eq, ordI_eq]; split <;> split <;> (try split) <;> omega
theorem ordI_zero {a b : Int} : ordI a b = 0 ↔ a = b := by
 rw [ordI_eq]; constructor
 ·intro h; split at h <;> (try split at h) <;> omega
 ·intro h; subst h; simp
theorem ordI_succ (a b : Int) : ordI (a + 1) (b + 1) = ordI a b := by
 rw [ordI_eq, ordI_eq]; split <;> split <;> (try split) <;> (try split) <;> omega
theorem thenI_neg (x y : Int) : thenI (-x) (-y) = -(thenI x y) := by
 rw [thenI_eq, thenI_eq]; split <;> split <;> omega
theorem thenI_tri {x y : Int} (h : Tri x) (h' : Tri y) : Tri (thenI x y) := by rw [thenI_eq]; split <;> assumption
theorem thenI_zero_iff {x y : Int} : thenI x y = 0 ↔ x = 0 ∧ y = 0 := by
 rw [thenI_eq]; split <;> omega
theorem bytes_neg : ∀ a b : Str, Lib.compareBytes b a = -(Lib.compareBytes a b)
 | [], [] => rfl
 | [], _ :: _ => rfl
 | _ :: _, [] => rfl
 | x :: a, y :: b => by
  simp only [Lib.compareBytes]
  have ih := bytes_neg a b
  by_cases h : x < y
  ·have h2 : ¬ y < x := fun h' => by
    have := UInt8.lt_iff_toNat_lt.1 h; have := UInt8.lt_iff_toNat_lt.1 h'; omega
   simp [h, h2]
  ·by_cases h' : y < x
   ·simp [h, h']
   ·simp [h, h', ih]
theorem bytes_tri (a b : Str) : Tri (Lib.compareBytes a b) := (cmpB a b).2.2
theorem bytes_zero {a b : Str} : Lib.compareBytes a b = 0 ↔ a = b := by
 have := (cmpB a b).2.1
 constructor
 ·intro h; rw [decide_eq_true h] at this; exact of_decide_eq_true this
 ·intro h; rw [decide_eq_true h] at this; exact of_decide_eq_true this.symm
theorem bytes_tr : ∀ a b c : Str, Tr (Lib.compareBytes a b) (Lib.compareBytes b c) (Lib.compareBytes a c)
 | [], [], [] => by simp [Tr, Lib.compareBytes]
 | [], [], _ :: _ => by simp [Tr, Lib.compareBytes]
 | [], _ :: _, [] => by simp [Tr, Lib.compareBytes]
 | [], _ :: _, _ :: _ => by simp [Tr, Lib.compareBytes]
 | _ :: _, [], [] => by simp [Tr, Lib.compareBytes]
 | _ :: _, [], _ :: _ => by simp [Tr, Lib.compareBytes]
 | _ :: _, _ :: _, [] => by simp [Tr, Lib.compareBytes]
 | x :: a, y :: b, z :: c => by
  have ih := bytes_tr a b c
  have e : ∀ (u v : UInt8) (p q : Str), Lib.compareBytes (u :: p) (v :: q) = thenI (ordI u.toNat v.toNat) (Lib.compareBytes p q) := fun u v p q => by
   simp only [Lib.compareBytes, thenI_eq, ordI_eq]
   by_cases h : u < v
   ·have := UInt8.lt_iff_toNat_lt.1 h
    rw [if_pos h, if_pos (by omega : (u.toNat : Int) < v.toNat)]; rfl
   ·have : ¬ u.toNat < v.toNat := fun h' => h (UInt8.lt_iff_toNat_lt.2 h')
    rw [if_neg h, if_neg (by omega : ¬ (u.toNat : Int) < v.toNat)]
    by_cases h' : v < u
    ·have := UInt8.lt_iff_toNat_lt.1 h'
     rw [if_pos h', if_pos (by omega : (v.toNat : Int) < u.toNat)]; rfl
    ·have : ¬ v.toNat < u.toNat := fun h'' => h' (UInt8.lt_iff_toNat_lt.2 h'')
     rw [if_neg h', if_neg (by omega : ¬ (v.toNat : Int) < u.toNat)]; rfl
  rw [e, e, e]
  exact (ordI_tr _ _ _).then ih
theorem cmpC_eq (c d : TApiCell) (K : Int) : cmpC c d K = if c.fKind ≠ d.fKind then ordI c.fKind d.fKind else if c.fKind = 4 then Lib.compareBytes c.fStr d.fStr else if c.fKind ≠ 5 ∧ c.fKind ≠ 6 then ordI c.fInt d.fInt else thenI K (ordI c.fN d.fN) := by
 unfold cmpC thenI
 by_cases h : c.fKind = d.fKind
 ·rw [decide_eq_true h, if_neg (by simpa using h)]
  simp only [Bool.not_true, cond_false]
  by_cases h4 : c.fKind = 4
  ·rw [decide_eq_true h4, if_pos h4]; rfl
  ·rw [decide_eq_false h4, if_neg h4]
   simp only [cond_false]
   by_cases h5 : c.fKind = 5
   ·rw [decide_eq_true h5, if_neg (by simp [h5])]; rfl
   ·by_cases h6 : c.fKind = 6
    ·rw [decide_eq_false h5, decide_eq_true h6, if_neg (by simp [h6])]; rfl
    ·rw [decide_eq_false h5, decide_eq_false h6, if_pos ⟨h5, h6⟩]; rfl
 ·rw [decide_eq_false h, if_pos h]; rfl
theorem cmpC_ne {c d : TApiCell} {K : Int} (h : ¬ c.fKind = d.fKind) : cmpC c d K = ordI c.fKind d.fKind := by rw [cmpC_eq, if_pos h]
theorem cmpC_str {c d : TApiCell} {K : Int} (h : c.fKind = d.fKind) (h4 : c.fKind = 4) : cmpC c d K = Lib.compareBytes c.fStr d.fStr := by rw [cmpC_eq, if_neg (not_not_intro h), if_pos h4]
theorem cmpC_leaf {c d : TApiCell} {K : Int} (h : c.fKind = d.fKind) (h4 : ¬ c.fKind = 4) (h5 : ¬ (c.fKind = 5 ∨ c.fKind = 6)) : cmpC c d K = ordI c.fInt d.fInt := by rw [cmpC_eq, if_neg (not_not_intro h), if_neg h4, if_pos ⟨fun e => h5 (.inl e), fun e => h5 (.inr e)⟩]
theorem cmpC_in {c d : TApiCell} {K : Int} (h : c.fKind = d.fKind) (h5 : c.fKind = 5 ∨ c.fKind = 6) : cmpC c d K = thenI K (ordI c.fN d.fN) := by rw [cmpC_eq, if_neg (not_not_intro h), if_neg (by omega), if_neg (by omega)]
theorem cmpC_neg (c d : TApiCell) (K : Int) : cmpC d c (-K) = -(cmpC c d K) := by
 by_cases h : c.fKind = d.fKind
 ·by_cases h4 : c.fKind = 4
  ·rw [cmpC_str h h4, cmpC_str h.symm (h ▸ h4), bytes_neg]
  ·by_cases h5 : c.fKind = 5 ∨ c.fKind = 6
   ·rw [cmpC_in h h5, cmpC_in h.symm (h ▸ h5), ordI_neg c.fN, thenI_neg]
   ·rw [cmpC_leaf h h4 h5, cmpC_leaf h.symm (h ▸ h4) (h ▸ h5), ordI_neg]
 ·rw [cmpC_ne h, cmpC_ne (Ne.symm h), ordI_neg]
theorem cmpC_tri {c d : TApiCell} {K : Int} (h : Tri K) : Tri (cmpC c d K) := by
 rw [cmpC_eq]
 split
 ·exact ordI_tri _ _
 ·split
  ·exact bytes_tri _ _
  ·split
   ·exact ordI_tri _ _
   ·exact thenI_tri h (ordI_tri _ _)
theorem cmpC_tr {c d e : TApiCell} {x y z : Int} (h : c.fKind = 5 ∨ c.fKind = 6 → c.fKind = d.fKind → d.fKind = e.fKind → Tr (thenI x (ordI c.fN d.fN)) (thenI y (ordI d.fN e.fN)) (thenI z (ordI c.fN e.fN))) : Tr (cmpC c d x) (cmpC d e y) (cmpC c e z) := by
 by_cases h1 : c.fKind = d.fKind
 ·by_cases h2 : d.fKind = e.fKind
  ·have h3 := h1.trans h2
   by_cases h4 : c.fKind = 4
   ·rw [cmpC_str h1 h4, cmpC_str h2 (h1 ▸ h4), cmpC_str h3 h4]; exact bytes_tr _ _ _
   ·by_cases h5 : c.fKind = 5 ∨ c.fKind = 6
    ·rw [cmpC_in h1 h5, cmpC_in h2 (h1 ▸ h5), cmpC_in h3 h5]; exact h h5 h1 h2
    ·rw [cmpC_leaf h1 h4 h5, cmpC_leaf h2 (h1 ▸ h4) (h1 ▸ h5), cmpC_leaf h3 h4 h5]; exact ordI_tr _ _ _
  ·rw [cmpC_ne h2, cmpC_ne (show ¬ c.fKind = e.fKind from h1 ▸ h2), h1]
   have : ¬ ordI d.fKind e.fKind = 0 := fun h' => h2 (ordI_zero.1 h')
   constructor <;> intros <;> omega
 ·by_cases h2 : d.fKind = e.fKind
  ·rw [cmpC_ne h1, cmpC_ne (show ¬ c.fKind = e.fKind from h2 ▸ h1), ← h2]
   have : ¬ ordI c.fKind d.fKind = 0 := fun h' => h1 (ordI_zero.1 h')
   constructor <;> intros <;> omega
  ·rw [cmpC_ne h1, cmpC_ne h2]
   have a1 : ¬ ordI c.fKind d.fKind = 0 := fun h' => h1 (ordI_zero.1 h')
   by_cases h3 : c.fKind = e.fKind
   ·have := ordI_neg c.fKind d.fKind
    rw [← h3]
    constructor <;> intros <;> omega
   ·rw [cmpC_ne h3]; exact ordI_tr _ _ _
theorem key_neg (k l : Option Str) : cmpKey l k = -(cmpKey k l) := by
 cases k <;> cases l <;> simp [cmpKey]
 exact bytes_neg _ _
theorem key_tri (k l : Option Str) : Tri (cmpKey k l) := by
 cases k <;> cases l <;> first | exact bytes_tri _ _ | exact .inr (.inl rfl)
theorem key_tr {m : Bool} {a b c k l n : Option Str} (h1 : keyOk m a k = true) (h2 : keyOk m b l = true) (h3 : keyOk m c n = true) : Tr (cmpKey k l) (cmpKey l n) (cmpKey k n) := by
 rw [← cmpKey_of h1 h2, ← cmpKey_of h2 h3, ← cmpKey_of h1 h3]; exact bytes_tr _ _ _
theorem cmp_neg : ∀ f g : Fo, g.cmp f = -(f.cmp g)
 | .nil, .nil => rfl
 | .nil, .cell _ _ _ => rfl
 | .nil, .node _ _ _ _ => rfl
 | .cell _ _ _, .nil => rfl
 | .node _ _ _ _, .nil => rfl
 | .cell k c r, .cell l d s => by
  have := cmpC_neg c d 0
  rw [Int.neg_zero] at this
  simp only [Fo.cmp, cmp_neg r s, key_neg k l, this, thenI_neg]
 | .cell k c r, .node l d g s => by
  have := cmpC_neg c d 0
  rw [Int.neg_zero] at this
  simp only [Fo.cmp, cmp_neg r s, key_neg k l, this, thenI_neg]
 | .node k c f r, .cell l d s => by
  have := cmpC_neg c d 0
  rw [Int.neg_zero] at this
  simp only [Fo.cmp, cmp_neg r s, key_neg k l, this, thenI_neg]
 | .node k c f r, .node l d g s => by
  simp only [Fo.cmp, cmp_neg r s, key_neg k l, cmp_neg f g, cmpC_neg c d, thenI_neg]
theorem cmp_tri : ∀ f g : Fo, Tri (f.cmp g)
 | .nil, .nil => .inr (.inl rfl)
 | .nil, .cell _ _ _ => .inr (.inl rfl)
 | .nil, .node _ _ _ _ => .inr (.inl rfl)
 | .cell _ _ _, .nil => .inr (.inl rfl)
 | .node _ _ _ _, .nil => .inr (.inl rfl)
 | .cell k c r, .cell l d s => thenI_tri (key_tri _ _) (thenI_tri (cmpC_tri (.inr (.inl rfl))) (cmp_tri r s))
 | .cell k c r, .node l d g s => thenI_tri (key_tri _ _) (thenI_tri (cmpC_tri (.inr (.inl rfl))) (cmp_tri r s))
 | .node k c f r, .cell l d s => thenI_tri (key_tri _ _) (thenI_tri (cmpC_tri (.inr (.inl rfl))) (cmp_tri r s))
 | .node k c f r, .node l d g s => thenI_tri (key_tri _ _) (thenI_tri (cmpC_tri (cmp_tri f g)) (cmp_tri r s))
def Fo.lex (f g : Fo) : Int := thenI (f.cmp g) (ordI f.cnt g.cnt)
theorem lex_nil (g : Fo) : Fo.nil.lex g = ordI 0 g.cnt := by unfold Fo.lex; rw [cmp_nil (.inl rfl), thenI_zero]; rfl
theorem lex_nil' (f : Fo) : f.lex .nil = ordI f.cnt 0 := by unfold Fo.lex; rw [cmp_nil (.inr rfl), thenI_zero]; rfl
theorem lex_hd {m : Bool} {a b : Option Str} {f g : Fo} {k l : Option Str} {c d : TApiCell} {kf kg r s : Fo} (hf : f.hd = some (k, c, kf, r)) (hg : g.hd = some (l, d, kg, s)) (Hf : Hd m a f k c kf r) (Hg : Hd m b g l d kg s) : f.lex g = thenI (cmpKey k l) (thenI (cmpC c d (kf.cmp kg)) (r.lex s)) := by
 unfold Fo.lex
 rw [cmp_hd hf hg, thenI_assoc, thenI_assoc, Hf.cnt, Hg.cnt, Int.natCast_add, Int.natCast_add]
 show thenI _ (thenI _ (thenI _ (ordI ((r.cnt : Int) + 1) ((s.cnt : Int) + 1)))) = _
 rw [ordI_succ]
theorem cnt_pos {m : Bool} {a : Option Str} {f : Fo} {k : Option Str} {c : TApiCell} {kf r : Fo} (Hf : Hd m a f k c kf r) : (0 : Int) < f.cnt := by have := Hf.cnt; omega
theorem lex_tr : ∀ (n : Nat) (f g h : Fo) (m : Bool) (a b c : Option Str), f.flat.length < n → f.wf m a = true → g.wf m b = true → h.wf m c = true → Tr (f.lex g) (g.lex h) (f.lex h) := by
 intro n
 induction n with
 | zero => intro f g h m a b c hn; omega
 | succ n ih =>
  intro f g h m a b c hn wf wg wh
  rcases hd_ok wf with rfl | ⟨k, x, kf, r, hf, Hf⟩
  ·rcases hd_ok wg with rfl | ⟨l, y, kg, s, hg, Hg⟩
   ·rw [lex_nil, lex_nil]; exact ordI_tr _ _ _
   ·rw [lex_nil, lex_nil]
    have hp := cnt_pos Hg
    rcases hd_ok wh with rfl | ⟨p, z, kh, t, hh, Hh⟩
    ·rw [lex_nil']; exact ordI_tr _ _ _
    ·have hp2 := cnt_pos Hh
     have e1 : ordI 0 h.cnt = -1 := by rw [ordI_eq, if_pos hp2]
     rw [e1]; constructor <;> intros <;> omega
  ·have hp := cnt_pos Hf
   rcases hd_ok wg with rfl | ⟨l, y, kg, s, hg, Hg⟩
   ·have e1 : f.lex .nil = 1 := by rw [lex_nil', ordI_eq, if_neg (by omega), if_pos hp]
    rw [e1]; constructor <;> intros <;> omega
   ·rcases hd_ok wh with rfl | ⟨p, z, kh, t, hh, Hh⟩
    ·have hp2 := cnt_pos Hg
     have e1 : g.lex .nil = 1 := by rw [lex_nil', ordI_eq, if_neg (by omega), if_pos hp2]
     rw [e1]; constructor <;> intros <;> omega
    ·have lf := congrArg List.length Hf.flat
     simp only [List.length_append, List.length_cons] at lf
     rw [lex_hd hf hg Hf Hg, lex_hd hg hh Hg Hh, lex_hd hf hh Hf Hh]
     refine (key_tr Hf.key Hg.key Hh.key).then (Tr.then (cmpC_tr fun h56 e1 e2 => ?_) (ih r s t m k l p (by omega) Hf.rest Hg.rest Hh.rest))
     rw [Hf.n, Hg.n, Hh.n]
     exact ih kf kg kh (decide (x.fKind = 6)) none none none (by omega) Hf.kw (by rw [e1]; exact Hg.kw) (by rw [e1, e2]; exact Hh.kw)
theorem cmpC_self (c : TApiCell) : cmpC c c 0 = 0 := by
 by_cases h4 : c.fKind = 4
 ·rw [cmpC_str rfl h4]; exact bytes_zero.2 rfl
 ·by_cases h5 : c.fKind = 5 ∨ c.fKind = 6
  ·rw [cmpC_in rfl h5, thenI_zero]; exact ordI_zero.2 rfl
  ·rw [cmpC_leaf rfl h4 h5]; exact ordI_zero.2 rfl
theorem cmp_self : ∀ f : Fo, f.cmp f = 0
 | .nil => rfl
 | .cell k c r => by
  have hk : cmpKey k k = 0 := by
   cases k with
   | none => rfl
   | some s => exact bytes_zero.2 rfl
  simp only [Fo.cmp, cmp_self r, hk, thenI_zero, thenI_0]
  exact cmpC_self c
 | .node k c f r => by
  have hk : cmpKey k k = 0 := by
   cases k with
   | none => rfl
   | some s => exact bytes_zero.2 rfl
  simp only [Fo.cmp, cmp_self r, cmp_self f, hk, thenI_zero, thenI_0]
  exact cmpC_self c
theorem pl_eq {c d : TApiCell} (hc : pl c = true) (hd : pl d = true) (hk : c.fKind = d.fKind) (h4 : c.fKind = 4 → c.fStr = d.fStr) (h3 : c.fKind ≠ 4 → c.fKind ≠ 5 → c.fKind ≠ 6 → c.fInt = d.fInt) (hn : c.fKind = 5 ∨ c.fKind = 6 → c.fN = d.fN) : c = d := by
 cases c with
 | mk a1 a2 a3 a4 =>
 cases d with
 | mk b1 b2 b3 b4 =>
 simp only at hk h4 h3 hn
 subst hk
 simp only [pl] at hc hd
 by_cases k1 : a1 = 1
 ·subst k1; simp at hc hd; simp [hc, hd]
 ·by_cases k2 : a1 = 2
  ·subst k2; simp at hc hd h3; simp [hc, hd, h3]
  ·by_cases k3 : a1 = 3
   ·subst k3; simp at hc hd h3; simp [hc, hd, h3]
   ·by_cases k4 : a1 = 4
    ·subst k4; simp at hc hd h4; simp [hc, hd, h4]
    ·by_cases k5 : a1 = 5
     ·subst k5; simp at hc hd hn; simp [hc, hd, hn]
     ·by_cases k6 : a1 = 6
      ·subst k6; simp at hc hd hn; simp [hc, hd, hn]
      ·simp [k1, k2, k3, k4, k5, k6] at hc
theorem lex_zero : ∀ (n : Nat) (f g : Fo) (m : Bool) (a b : Option Str), f.flat.length < n → f.wf m a = true → g.wf m b = true → f.lex g = 0 → f.flat = g.flat := by
 intro n
 induction n with
 | zero => intro f g m a b hn; omega
 | succ n ih =>
  intro f g m a b hn wf wg h
  rcases hd_ok wf with rfl | ⟨k, x, kf, r, hf, Hf⟩
  ·rcases hd_ok wg with rfl | ⟨l, y, kg, s, hg, Hg⟩
   ·rfl
   ·rw [lex_nil] at h; have := ordI_zero.1 h; have := cnt_pos Hg; omega
  ·rcases hd_ok wg with rfl | ⟨l, y, kg, s, hg, Hg⟩
   ·rw [lex_nil'] at h; have := ordI_zero.1 h; have := cnt_pos Hf; omega
   ·have lf := congrArg List.length Hf.flat
    simp only [List.length_append, List.length_cons] at lf
    rw [lex_hd hf hg Hf Hg, thenI_zero_iff, thenI_zero_iff] at h
    obtain ⟨h1, h2, h3⟩ := h
    have e3 := ih r s m k l (by omega) Hf.rest Hg.rest h3
    have ek : k = l := by
     have p := Hf.key; have q := Hg.key
     cases k with
     | none =>
      cases l with
      | none => rfl
      | some t => simp [keyOk] at p q; simp [p] at q
     | some t =>
      cases l with
      | none => simp [keyOk] at p q; simp [q] at p
      | some u => rw [bytes_zero.1 (show Lib.compareBytes t u = 0 from h1)]
    have hk : x.fKind = y.fKind := by
     by_cases hk : x.fKind = y.fKind
     ·exact hk
     ·rw [cmpC_ne hk] at h2; exact ordI_zero.1 h2
    have hkids : x.fKind = 5 ∨ x.fKind = 6 → kf.lex kg = 0 := fun h56 => by
     rw [cmpC_in hk h56, Hf.n, Hg.n] at h2; exact h2
    have hN : x.fKind = 5 ∨ x.fKind = 6 → x.fN = y.fN := fun h56 => by
     rw [cmpC_in hk h56] at h2; exact ordI_zero.1 (thenI_zero_iff.1 h2).2
    have exy : x = y := pl_eq Hf.pl Hg.pl hk (fun h4 => by rw [cmpC_str hk h4] at h2; exact bytes_zero.1 h2) (fun h4 h5 h6 => by rw [cmpC_leaf hk h4 (by omega)] at h2; exact ordI_zero.1 h2) hN
    have ekids : kf.flat = kg.flat := by
     by_cases h56 : x.fKind = 5 ∨ x.fKind = 6
     ·exact ih kf kg (decide (x.fKind = 6)) none none (by omega) Hf.kw (by rw [hk]; exact Hg.kw) (hkids h56)
     ·have z1 : ¬ 0 < x.fN := fun h' => h56 (pl_node Hf.pl h').1
      have z2 : ¬ 0 < y.fN := fun h' => h56 (by rw [hk]; exact (pl_node Hg.pl h').1)
      have := Hf.n; have := Hg.n
      rw [cnt_zero (f := kf) (by omega), cnt_zero (f := kg) (by omega)]
    rw [Hf.flat, Hg.flat, ek, exy, e3, ekids]
end Go.Proofs.YtkalifgebccpcaaDoor

/-
 Same says whether cells are equal. Plain laws.
-/
namespace Go.Proofs.YtkalifgebccpcaaDoor
open Go Go.RowKit
set_option linter.unusedVariables false
set_option linter.unusedSimpArgs false
theorem take_eq_len {α : Type} {a b : List α} {n : Nat} (h : a.take n = b.take n) (h1 : a.length ≤ n) (h2 : b.length ≤ n) : a = b := by
 rw [List.take_of_length_le h1, List.take_of_length_le h2] at h; exact h
theorem vSame_eq {F : Nat} {a b : List TApiCell} (hF : a.length < F) (hv : a.length ≤ 1152921504606846976) : vSame F a b = some (decide (a = b)) := by
 have key : slEqual F a b = some (decide (a = b)) := by
  unfold slEqual
  by_cases hl : (a.length : Int) = (b.length : Int)
  ·rw [cnd_ff (by simp [hl])]
   obtain ⟨o, h1, h2⟩ := lop_ind (body := fun σ => slEqual_b1 a b σ) (fun x => 0 ≤ x ∧ x ≤ (a.length : Int) ∧ a.take x.toNat = b.take x.toNat) (fun x => a.length - x.toNat) (fun o => oute (fun _ => slEqual_k1) o = some (decide (a = b))) (fun x ⟨h0, hx, ht⟩ => by
    by_cases h : x < (a.length : Int)
    ·have hb : x < (b.length : Int) := by omega
     obtain ⟨c, hc⟩ : ∃ c, a[x.toNat]? = some c := ⟨a[x.toNat]'(by omega), List.getElem?_eq_getElem (by omega)⟩
     obtain ⟨d, hd⟩ : ∃ d, b[x.toNat]? = some d := ⟨b[x.toNat]'(by omega), List.getElem?_eq_getElem (by omega)⟩
     have ac : at' a x = c := by simp [at', hc]
     have bd : at' b x = d := by simp [at', hd]
     have heq : (decide (c.fKind = d.fKind) && decide (c.fInt = d.fInt) && decide (c.fStr = d.fStr) && decide (c.fN = d.fN)) = decide (c = d) := by
      cases c; cases d
      rw [Bool.eq_iff_iff]
      simp only [TApiCell.mk.injEq, Bool.and_eq_true, decide_eq_true_eq]
      constructor
      ·rintro ⟨⟨⟨h1, h2⟩, h3⟩, h4⟩; exact ⟨h1, h2, h3, h4⟩
      ·rintro ⟨h1, h2, h3, h4⟩; exact ⟨⟨⟨h1, h2⟩, h3⟩, h4⟩
     have hb1 : slEqual_b1 a b x = cnd (!decide (c = d)) (some (.out (.ret false))) (some (.next (x + 1))) := by
      unfold slEqual_b1
      rw [cnd_tt (decide_eq_true h), chk_inR h0 h, chk_inR h0 hb, ac, bd, heq, chk_i64 (by omega) (by omega)]
     by_cases hcd : c = d
     ·refine .inl ⟨x + 1, hb1.trans (by rw [cnd_ff (by simp [hcd])]), ⟨by omega, by omega, ?_⟩, by omega⟩
      rw [show (x + 1).toNat = x.toNat + 1 from by omega, List.take_add_one, List.take_add_one, ht, hc, hd, hcd]
     ·refine .inr ⟨.ret false, hb1.trans (by rw [cnd_tt (by simp [hcd])]), ?_⟩
      rw [oute_ret, decide_eq_false]
      intro e; subst e; rw [hc] at hd; cases hd; exact hcd rfl
    ·refine .inr ⟨.go (), by unfold slEqual_b1; rw [cnd_ff (decide_eq_false h)], ?_⟩
     rw [oute_go, decide_eq_true (take_eq_len ht (by omega) (by omega))]; rfl) F 0 ⟨Int.le_refl 0, by omega, rfl⟩ (by show a.length - 0 < F; omega)
   rw [obn_s h1, h2]
  ·rw [cnd_tt (by simp [hl]), decide_eq_false]
   intro e; subst e; exact hl rfl
 unfold vSame
 rw [key, obn_s rfl]
end Go.Proofs.YtkalifgebccpcaaDoor

/-
 The plain law of ValueOrders: for all cells whose numbers fit.
-/
namespace Go.Proofs.YtkalifgebccpcaaDoor
open Go
set_option linter.unusedVariables false
set_option linter.unusedSimpArgs false
theorem lAwakeO : lAwake 4000 = some true := by decide +kernel
theorem val_of {M : Nat} {v : List TApiCell} (hA : CkA M v) (h : errV v = 0) : ∃ f c kf, whole v = some f ∧ v = c :: kf.flat ∧ v = f.flat ∧ f.hd = some (none, c, kf, .nil) ∧ VHd M c kf := by
 unfold errV at h
 cases hw : whole v with
 | none => rw [hw] at h; cases h
 | some f =>
  obtain ⟨x1, x2, x3⟩ := whole_some hw
  obtain ⟨c, kf, e1, e2, e3⟩ := one_hd x3 x2 (by rw [← x1]; exact hA)
  exact ⟨f, c, kf, rfl, x1.trans e1, x1, e2, e3⟩
theorem cmpV_of {a b : List TApiCell} (h1 : errV a = 0) (h2 : errV b = 0) {f g : Fo} (e1 : whole a = some f) (e2 : whole b = some g) : cmpV a b = f.cmp g := by
 unfold cmpV
 rw [decide_eq_true h1, decide_eq_true h2, e1, e2]; rfl
theorem lOrders_law {a b c : List TApiCell} (ha : a.all okCell = true) (hb : b.all okCell = true) (hc : c.all okCell = true) : lOrders 4000 a b c = some true := by
 unfold lOrders
 rw [lSmall_eq (by decide), lSmall_eq (by decide), lSmall_eq (by decide), lAwakeO]
 simp only [ov_some, Option.isSome_some, imp_tt, chk_t]
 cases hs : smallV a with
 | false => rfl
 | true =>
 cases ht : smallV b with
 | false => rfl
 | true =>
 cases hu : smallV c with
 | false => rfl
 | true =>
 have hA := CkA.of hs ha
 have hB := CkA.of ht hb
 have hC := CkA.of hu hc
 have hvA := hA.hv; have hvB := hB.hv; have hvC := hC.hv
 rw [cnd_ff (p := !true || (!true || !true)) rfl, vCheck_eq hA (by decide) (by decide), vCheck_eq hB (by decide) (by decide), vCheck_eq hC (by decide) (by decide), vCmp_eq hA hB (by decide) (by decide), vCmp_eq hB hC (by decide) (by decide), vCmp_eq hA hC (by decide) (by decide), vCmp_eq hB hA (by decide) (by decide), vSame_eq (by omega) (by omega)]
 simp only [ov_some, Option.isSome_some, imp_tt, chk_t, obn_s]
 by_cases ea : errV a = 0
 ·by_cases eb : errV b = 0
  ·by_cases ec : errV c = 0
   ·rw [cnd_ff (by simp [ea, eb, ec])]
    obtain ⟨f, p, kf, f1, f2, f2', f3, f4⟩ := val_of hA ea
    obtain ⟨g, q, kg, g1, g2, g2', g3, g4⟩ := val_of hB eb
    obtain ⟨h, r, kh, h1, h2, h2', h3, h4⟩ := val_of hC ec
    have x : cmpV a b = cmpC p q (kf.cmp kg) := by rw [cmpV_of ea eb f1 g1, cmp_hd f3 g3, show (Fo.nil.cmp Fo.nil) = 0 from rfl, thenI_0, show cmpKey none none = 0 from rfl, thenI_zero]
    have y : cmpV b c = cmpC q r (kg.cmp kh) := by rw [cmpV_of eb ec g1 h1, cmp_hd g3 h3, show (Fo.nil.cmp Fo.nil) = 0 from rfl, thenI_0, show cmpKey none none = 0 from rfl, thenI_zero]
    have z : cmpV a c = cmpC p r (kf.cmp kh) := by rw [cmpV_of ea ec f1 h1, cmp_hd f3 h3, show (Fo.nil.cmp Fo.nil) = 0 from rfl, thenI_0, show cmpKey none none = 0 from rfl, thenI_zero]
    have hneg : cmpV b a = -(cmpV a b) := by rw [cmpV_of ea eb f1 g1, cmpV_of eb ea g1 f1]; exact cmp_neg f g
    have htr : Tr (cmpV a b) (cmpV b c) (cmpV a c) := by
     rw [x, y, z]
     exact cmpC_tr fun h56 k1 k2 => by
      rw [f4.n, g4.n, h4.n]
      exact lex_tr (kf.flat.length + 1) kf kg kh (decide (p.fKind = 6)) none none none (by omega) f4.wf (by rw [k1]; exact g4.wf) (by rw [k1, k2]; exact h4.wf)
    have htri : Tri (cmpV a b) := by rw [cmpV_of ea eb f1 g1]; exact cmp_tri f g
    have hzero : decide (cmpV a b = 0) = decide (a = b) := by
     rw [Bool.eq_iff_iff, decide_eq_true_eq, decide_eq_true_eq]
     constructor
     ·intro e
      have w1 := whole_some f1
      have w2 := whole_some g1
      rw [cmpV_of ea eb f1 g1] at e
      rw [f2', g2']
      refine lex_zero (f.flat.length + 1) f g false none none (by omega) w1.2.1 w2.2.1 ?_
      unfold Fo.lex
      rw [e, thenI_zero, one_cnt w1.2.2, one_cnt w2.2.2]; rfl
     ·intro e
      subst e
      rw [f1] at g1; cases g1
      rw [cmpV_of ea ea f1 f1]; exact cmp_self f
    rw [obn_s rfl, obn_s rfl, obn_s rfl, hzero, hneg]
    generalize cmpV a b = X at *
    generalize cmpV b c = Y at *
    generalize cmpV a c = Z at *
    obtain ⟨t1, t2⟩ := htr
    unfold Tri at htri
    rw [chk_i64 (by omega) (by omega), cnd_ff]
    ·by_cases c1 : 0 < X
     ·rw [decide_eq_true c1]; rfl
     ·rw [decide_eq_false c1]
      by_cases c2 : 0 < Y
      ·rw [decide_eq_true c2]; rfl
      ·rw [decide_eq_false c2]
       have hz := t1 (by omega) (by omega)
       rw [decide_eq_true hz, ← hzero]
       by_cases c3 : X = 0
       ·by_cases c4 : Y = 0
        ·rw [decide_eq_true c3, decide_eq_true c4]; rfl
        ·rw [decide_eq_true c3, decide_eq_false c4, decide_eq_true (t2 (by omega) (by omega) (by omega))]; rfl
       ·rw [decide_eq_false c3, decide_eq_true (t2 (by omega) (by omega) (by omega))]; rfl
    ·rcases htri with e | e | e <;> subst e <;> simp
   ·rw [cnd_tt (by simp [ec])]; rfl
  ·rw [cnd_tt (by simp [eb])]; rfl
 ·rw [cnd_tt (by simp [ea])]; rfl
end Go.Proofs.YtkalifgebccpcaaDoor
namespace Go.Proofs.YtkalifgebccpcaaDoor.lawValueOrders
open Go
set_option linter.unusedVariables false
theorem law : Law := fun a b c h1 h2 h3 => ⟨4000, lOrders_law (Bool.and_eq_true_iff.1 h1).1 (Bool.and_eq_true_iff.1 h2).1 (Bool.and_eq_true_iff.1 h3).1⟩
end Go.Proofs.YtkalifgebccpcaaDoor.lawValueOrders
