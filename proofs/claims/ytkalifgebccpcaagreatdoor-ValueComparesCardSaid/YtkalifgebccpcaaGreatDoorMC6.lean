/-
  Texts of the proof, put together: LcG, LwCompares.
-/
import Derived.Test.YtkalifgebccpcaaGreatDoorMC5
/-
 value.compare is the order of forests. Plain laws.
-/
namespace Go.Proofs.YtkalifgebccpcaaGreatDoor
open Go Go.RowKit
set_option linter.unusedVariables false
set_option linter.unusedSimpArgs false
def Fo.keys : Fo → List Str
 | .nil => []
 | .cell k _ r => keyS k :: r.keys
 | .node k _ _ r => keyS k :: r.keys
def Fo.vals : Fo → List (List TApiCell)
 | .nil => []
 | .cell _ c r => [c] :: r.vals
 | .node _ c kids r => (c :: kids.flat) :: r.vals
theorem kv_hd {f kids r : Fo} {k : Option Str} {c : TApiCell} (h : f.hd = some (k, c, kids, r)) : f.keys = keyS k :: r.keys ∧ f.vals = (c :: kids.flat) :: r.vals := by
 cases f <;> simp [Fo.hd] at h <;> obtain ⟨rfl, rfl, rfl, rfl⟩ := h <;> simp [Fo.keys, Fo.vals, Fo.flat]
theorem kv_len : ∀ f : Fo, f.keys.length = f.cnt ∧ f.vals.length = f.cnt
 | .nil => ⟨rfl, rfl⟩
 | .cell k c r => by simp [Fo.keys, Fo.vals, Fo.cnt, kv_len r]
 | .node k c kids r => by simp [Fo.keys, Fo.vals, Fo.cnt, kv_len r]
theorem chk_inA16 {α : Type} {n : Nat} {x : Option α} (h : n ≤ 1000000001) : chk (inA 16 n) x = x := chk_t (decide_eq_true (by omega))
theorem chk_inA24 {α : Type} {n : Nat} {x : Option α} (h : n ≤ 1000000001) : chk (inA 24 n) x = x := chk_t (decide_eq_true (by omega))
theorem vCmpF_eq {k : Str} {x : List TApiCell} {s : List Str × List (List TApiCell)} (h1 : s.1.length ≤ 1000000000) (h2 : s.2.length ≤ 1000000000) : vCmpF k x s.1 s.2 = some (true, s.1 ++ [k], s.2 ++ [x]) := by
 unfold vCmpF
 rw [chk_inA16 (by simp; omega), chk_inA24 (by simp; omega)]
theorem vCmpF_parts : ∀ (g : Fo) (s : List Str × List (List TApiCell)), s.1.length + g.cnt ≤ 1000000000 → s.2.length + g.cnt ≤ 1000000000 → fparts (fun k x s => vCmpF k x s.1 s.2) g s = some (.go (s.1 ++ g.keys, s.2 ++ g.vals))
 | .nil, s, _, _ => by simp [fparts, Fo.keys, Fo.vals]
 | .cell k c r, s, h1, h2 => by
  simp only [Fo.cnt] at h1 h2
  rw [fparts, onY_some (vCmpF_eq (by omega) (by omega)), cond_true, vCmpF_parts r _ (by simp; omega) (by simp; omega)]
  simp [Fo.keys, Fo.vals]
 | .node k c kids r, s, h1, h2 => by
  simp only [Fo.cnt] at h1 h2
  rw [fparts, onY_some (vCmpF_eq (by omega) (by omega)), cond_true, vCmpF_parts r _ (by simp; omega) (by simp; omega)]
  simp [Fo.keys, Fo.vals]
structure VOk (M : Nat) (c : TApiCell) (kf : Fo) : Prop where
 pl : pl c = true
 n : c.fN = kf.cnt
 wf : kf.wf (decide (c.fKind = 6)) none = true
 ck : CkA M (c :: kf.flat)
section
variable {M : Nat}
theorem CkA.sub {a b : List TApiCell} (h : CkA M a) (hl : b.length ≤ a.length) (hm : ∀ x ∈ b, x ∈ a) : CkA M b := ⟨h.hM, by have := h.hv; omega, fun c hc => h.hc c (hm c hc)⟩
theorem Hd.v {m : Bool} {last k : Option Str} {f kids r : Fo} {c : TApiCell} (H : Hd m last f k c kids r) (hA : CkA M f.flat) : VOk M c kids ∧ CkA M r.flat := by
 have e := H.flat
 have l := congrArg List.length e
 simp only [List.length_append, List.length_cons] at l
 refine ⟨⟨H.pl, H.n, H.kw, hA.sub (by simp only [List.length_cons]; omega) (fun x hx => ?_)⟩, hA.sub (by omega) (fun x hx => ?_)⟩
 ·rw [e]; simp only [List.mem_append, List.mem_cons] at hx ⊢
  rcases hx with hx | hx
  ·exact .inr (.inl hx)
  ·exact .inr (.inr (.inl hx))
 ·rw [e]; simp only [List.mem_append, List.mem_cons]
  exact .inr (.inr (.inr hx))
theorem cmpKey_of {m : Bool} {a b k l : Option Str} (h1 : keyOk m a k = true) (h2 : keyOk m b l = true) : Lib.compareBytes (keyS k) (keyS l) = cmpKey k l := by
 cases k with
 | none =>
  cases l with
  | none => rfl
  | some t => simp [keyOk] at h1 h2; simp [h1] at h2
 | some s =>
  cases l with
  | none => simp [keyOk] at h1 h2; simp [h2] at h1
  | some t => rfl
def resO {A B C : Type} : Out (A × B × C × Int) (A × B × C × Int) → Int
 | .ret s => s.2.2.2
 | .go s => s.2.2.2
theorem at_mid {α : Type} [Inhabited α] (a b : List α) (x : α) {i : Int} (h : i = (a.length : Int)) : at' (a ++ x :: b) i = x := by subst h; simp [at']
theorem cmpQ_forest {F N : Nat} {rc : List TApiCell → List TApiCell → Option Int} (hr : ∀ c d kf kg, VOk M c kf → VOk M d kg → kf.flat.length + kg.flat.length + 2 ≤ N → rc (c :: kf.flat) (d :: kg.flat) = some (cmpC c d (kf.cmp kg))) :
  ∀ (n : Nat) (f g : Fo), f.flat.length < n → f.flat.length + g.flat.length ≤ N → ∀ (m : Bool) (last1 last2 : Option Str) (i : Int) (pv : List (List TApiCell)) (pk : List Str), f.wf m last1 = true → g.wf m last2 = true → CkA M f.flat → CkA M g.flat → i = (pv.length : Int) → i = (pk.length : Int) → pv.length + g.cnt ≤ 1000000000 →
  ∃ o, fparts (fun k x (s : Int × List (List TApiCell) × List Str × Int) => vCmpGm F rc k x s.1 s.2.1 s.2.2.1 s.2.2.2) f (i, pv ++ g.vals, pk ++ g.keys, 0) = some o ∧ resO o = f.cmp g := by
 intro n
 induction n with
 | zero => intro f g h; omega
 | succ n ih =>
  intro f g hn hN m last1 last2 i pv pk hwf hwg hA hB hi1 hi2 hb
  rcases hd_ok hwf with rfl | ⟨k, c, kf, r, hf, Hf⟩
  ·exact ⟨.go _, rfl, (cmp_nil (.inl rfl)).symm⟩
  rw [fparts_hd hf]
  rcases hd_ok hwg with rfl | ⟨l, d, kg, s, hg, Hg⟩
  ·refine ⟨.ret (i, pv ++ Fo.nil.vals, pk ++ Fo.nil.keys, 0), ?_, (cmp_nil (.inr rfl)).symm⟩
   rw [onY_some (b := false) (s := (i, pv ++ Fo.nil.vals, pk ++ Fo.nil.keys, 0))]
   ·rfl
   ·show vCmpGm F rc _ _ i (pv ++ Fo.nil.vals) (pk ++ Fo.nil.keys) 0 = _
    unfold vCmpGm
    rw [cnd_tt (by simp [Fo.vals, hi1])]
  ·obtain ⟨v1, ck1⟩ := Hf.v hA
   obtain ⟨v2, ck2⟩ := Hg.v hB
   obtain ⟨g1, g2⟩ := kv_hd hg
   have lf := congrArg List.length Hf.flat
   have lg := congrArg List.length Hg.flat
   simp only [List.length_append, List.length_cons] at lf lg
   have cg := Hg.cnt
   obtain ⟨q1, q2⟩ := kv_len s
   have hc := hr c d kf kg v1 v2 (by omega)
   have hck := cmpKey_of Hf.key Hg.key
   rw [cmp_hd hf hg, g1, g2]
   have hl1 : (((pv ++ (d :: kg.flat) :: s.vals).length : Nat) : Int) = i + 1 + s.cnt := by rw [List.length_append, List.length_cons, q2]; omega
   have hl2 : (((pk ++ keyS l :: s.keys).length : Nat) : Int) = i + 1 + s.cnt := by rw [List.length_append, List.length_cons, q1]; omega
   have hy : vCmpGm F rc (keyS k) (c :: kf.flat) i (pv ++ (d :: kg.flat) :: s.vals) (pk ++ keyS l :: s.keys) 0 = some (decide (thenI (cmpKey k l) (cmpC c d (kf.cmp kg)) = 0), i + 1, pv ++ (d :: kg.flat) :: s.vals, pk ++ keyS l :: s.keys, thenI (cmpKey k l) (cmpC c d (kf.cmp kg))) := by
    unfold vCmpGm
    rw [hl1, hl2, cnd_ff (decide_eq_false (by omega)), chk_inR (by omega) (by omega), at_mid pk s.keys (keyS l) hi2, hck]
    cases hk : decide (cmpKey k l = 0) with
    | true =>
     rw [cnd_tt rfl, chk_inR (by omega) (by omega), at_mid pv s.vals _ hi1, hc, obn_s rfl, chk_i64 (by omega) (by omega), thenI_z hk]
    | false =>
     rw [cnd_ff rfl, chk_i64 (by omega) (by omega), thenI_nz hk, hk]
   rw [onY_some (b := decide (thenI (cmpKey k l) (cmpC c d (kf.cmp kg)) = 0)) (s := (i + 1, pv ++ (d :: kg.flat) :: s.vals, pk ++ keyS l :: s.keys, thenI (cmpKey k l) (cmpC c d (kf.cmp kg)))) hy, ← thenI_assoc]
   cases hz : decide (thenI (cmpKey k l) (cmpC c d (kf.cmp kg)) = 0) with
   | false => exact ⟨_, rfl, (thenI_nz hz).symm⟩
   | true =>
    rw [thenI_z hz, of_decide_eq_true hz, cond_true]
    obtain ⟨o, e1, e2⟩ := ih r s (by omega) (by omega) m k l (i + 1) (pv ++ [d :: kg.flat]) (pk ++ [keyS l]) Hf.rest Hg.rest ck1 ck2 (by simp [hi1]) (by simp [hi2]) (by simp; omega)
    rw [List.append_assoc, List.append_assoc] at e1
    exact ⟨o, e1, e2⟩
theorem vCompare_hd : ∀ (n : Nat) (c d : TApiCell) (kf kg : Fo), VOk M c kf → VOk M d kg → kf.flat.length + kg.flat.length < n → ∀ F, M + 5 + 4 * n < F → vCompare F (c :: kf.flat) (d :: kg.flat) = some (cmpC c d (kf.cmp kg)) := by
 intro n
 induction n with
 | zero => intro c d kf kg _ _ h; omega
 | succ n ih =>
  intro c d kf kg v1 v2 hn F hF
  have hM := v1.ck.hM; have hvA := v1.ck.hv; have hvB := v2.ck.hv
  simp only [List.length_cons] at hvA hvB
  have c1 := cnt_le_flat kf; have c2 := cnt_le_flat kg
  obtain ⟨F, rfl⟩ : ∃ K, F = K + 3 := ⟨F - 3, by omega⟩
  rw [vCompare]
  unfold vComparem cmpC
  have l1 : (0 : Int) < ((c :: kf.flat).length : Int) := by simp only [List.length_cons]; omega
  have l2 : (0 : Int) < ((d :: kg.flat).length : Int) := by simp only [List.length_cons]; omega
  rw [chk_inR (Int.le_refl 0) l1, chk_inR (Int.le_refl 0) l2, show at' (c :: kf.flat) 0 = c from rfl, show at' (d :: kg.flat) 0 = d from rfl]
  cases hk : decide (c.fKind = d.fKind) with
  | false => rw [cnd_tt (p := !false) rfl, vOrder_eq, obn_s rfl]; rfl
  | true =>
  rw [cnd_ff (p := !true) rfl]
  cases h4 : decide (c.fKind = 4) with
  | true => rw [cnd_tt rfl]; rfl
  | false =>
  rw [cnd_ff rfl]
  cases h56 : (!decide (c.fKind = 5) && !decide (c.fKind = 6)) with
  | true => rw [cnd_tt rfl, vOrder_eq, obn_s rfl]; rfl
  | false =>
   rw [cnd_ff rfl]
   have hP : vCmpP (F + 2) (d :: kg.flat) [] [] = some (kg.keys, kg.vals) := by
    unfold vCmpP
    have := pB_whole (Y := fun k x (s : List Str × List (List TApiCell)) => vCmpF k x s.1 s.2) (F := F + 2) v2.ck (by omega) rfl v2.n v2.wf ([], [])
    rw [vCmpF_parts kg ([], []) (by show 0 + kg.cnt ≤ _; omega) (by show 0 + kg.cnt ≤ _; omega)] at this
    have eB : (fun (σ : Int × Int × List Str × List (List TApiCell)) => vCmpP_b1 (F + 2) (d :: kg.flat) σ.1 σ.2.1 σ.2.2.1 σ.2.2.2) = fun σ => pB (F + 2) (d :: kg.flat) (fun k x s => vCmpF k x s.1 s.2) σ.1 σ.2.1 σ.2.2 := rfl
    rw [chk_inR (Int.le_refl 0) l2, eB, obn_s this]; rfl
   have hek : c.fKind = d.fKind := of_decide_eq_true hk
   have hQ : ∃ o, vCmpQ (F + 2) (c :: kf.flat) 0 kg.vals kg.keys 0 = some o ∧ o.2.2.2 = kf.cmp kg := by
    rw [vCmpQ]
    unfold vCmpQm
    obtain ⟨o, e1, e2⟩ := cmpQ_forest (M := M) (F := F) (N := kf.flat.length + kg.flat.length) (rc := vCompare F) (fun c d kf kg w1 w2 hl => ih c d kf kg w1 w2 (by omega) F (by omega)) (kf.flat.length + 1) kf kg (by omega) (by omega) (decide (c.fKind = 6)) none none 0 [] [] v1.wf (by rw [hek]; exact v2.wf)
     (v1.ck.sub (by simp) (fun x hx => by simp [hx])) (v2.ck.sub (by simp) (fun x hx => by simp [hx])) rfl rfl (by simp; omega)
    have := pB_whole (Y := fun k x (s : Int × List (List TApiCell) × List Str × Int) => vCmpG (F + 1) k x s.1 s.2.1 s.2.2.1 s.2.2.2) (F := F + 1) v1.ck (by omega) rfl v1.n v1.wf (0, kg.vals, kg.keys, 0)
    have eY : (fun k x (s : Int × List (List TApiCell) × List Str × Int) => vCmpG (F + 1) k x s.1 s.2.1 s.2.2.1 s.2.2.2) = (fun k x s => vCmpGm F (vCompare F) k x s.1 s.2.1 s.2.2.1 s.2.2.2) := by funext k x s; rw [vCmpG]
    rw [eY] at this
    have e1' := this.trans e1
    have eB : (fun (σ : Int × Int × Int × List (List TApiCell) × List Str × Int) => vCmpQ_b1 (F + 1) (c :: kf.flat) (vCmpG (F + 1)) σ.1 σ.2.1 σ.2.2.1 σ.2.2.2.1 σ.2.2.2.2.1 σ.2.2.2.2.2) = fun σ => pB (F + 1) (c :: kf.flat) (fun k x s => vCmpGm F (vCompare F) k x s.1 s.2.1 s.2.2.1 s.2.2.2) σ.1 σ.2.1 σ.2.2 := by
     rw [← eY]; rfl
    rw [chk_inR (Int.le_refl 0) l1, eB, obn_s e1']
    cases o with
    | ret s => exact ⟨s, rfl, e2⟩
    | go s => exact ⟨s, rfl, e2⟩
   obtain ⟨o, e1, e2⟩ := hQ
   rw [hP, obn_s rfl, e1, obn_s rfl, e2, vOrder_eq]
   cases decide (kf.cmp kg = 0) <;> rfl
theorem one_hd {f : Fo} (h1 : f.one = true) (hw : f.wf false none = true) (hA : CkA M f.flat) : ∃ c kf, f.flat = c :: kf.flat ∧ f.hd = some (none, c, kf, .nil) ∧ VOk M c kf := by
 rcases hd_ok hw with h | ⟨k, c, kf, r, hf, Hf⟩
 ·subst h; cases h1
 have cf := Hf.cnt
 rw [one_cnt h1] at cf
 obtain rfl := cnt_zero (f := r) (by omega)
 have hk : k = none := by
  have := Hf.key
  cases k with
  | none => rfl
  | some _ => simp [keyOk] at this
 subst hk
 exact ⟨c, kf, by rw [Hf.flat]; simp [keyC, Fo.flat], hf, (Hf.v hA).1⟩
variable {a b : List TApiCell}
theorem vCompare_eq (hA : CkA M a) (hB : CkA M b) {f g : Fo} (hf : f.one = true) (hg : g.one = true) (wf : f.wf false none = true) (wg : g.wf false none = true) (ea : a = f.flat) (eb : b = g.flat) {F : Nat} (hF : 9 * M + 10 < F) : vCompare F a b = some (f.cmp g) := by
 subst ea; subst eb
 have hvA := hA.hv; have hvB := hB.hv
 obtain ⟨c, kf, e1, h1, v1⟩ := one_hd hf wf hA
 obtain ⟨d, kg, e2, h2, v2⟩ := one_hd hg wg hB
 rw [e1] at hvA ⊢
 rw [e2] at hvB ⊢
 simp only [List.length_cons] at hvA hvB
 rw [vCompare_hd (kf.flat.length + kg.flat.length + 1) c d kf kg v1 v2 (by omega) F (by omega), cmp_hd h1 h2, show (Fo.nil.cmp Fo.nil) = 0 from rfl, thenI_0, show cmpKey none none = 0 from rfl, thenI_zero]
theorem vCmp_eq (hA : CkA M a) (hB : CkA M b) (hM : M ≤ 1000000) {F : Nat} (hF : 9 * M + 10 < F) : vCmp F a b = some (cmpV a b) := by
 unfold vCmp cmpV
 rw [vCheck_eq hA hM (by omega), vCheck_eq hB hM (by omega)]
 have key : errV a = 0 → errV b = 0 → vCompare F a b = some (match whole a, whole b with
  | some f, some g => f.cmp g
  | _, _ => 0) := fun h1 h2 => by
  unfold errV at h1 h2
  cases hwa : whole a with
  | none => rw [hwa] at h1; cases h1
  | some f =>
   cases hwb : whole b with
   | none => rw [hwb] at h2; cases h2
   | some g =>
    obtain ⟨x1, x2, x3⟩ := whole_some hwa
    obtain ⟨y1, y2, y3⟩ := whole_some hwb
    exact vCompare_eq hA hB x3 y3 x2 y2 x1 y1 hF
 simp only [ov_some, Option.isSome_some, imp_tt, chk_t]
 by_cases h1 : errV a = 0
 ·by_cases h2 : errV b = 0
  ·rw [cnd_ff (by simp [h1, h2]), key h1 h2, obn_s rfl, decide_eq_true h1, decide_eq_true h2]; rfl
  ·rw [cnd_tt (by simp [h2]), decide_eq_false h2, Bool.and_false]; rfl
 ·rw [cnd_tt (by simp [h1]), decide_eq_false h1]; rfl
end
end Go.Proofs.YtkalifgebccpcaaGreatDoor

/-
 The plain law of ValueCompares: for all cells whose numbers fit.
-/
namespace Go.Proofs.YtkalifgebccpcaaGreatDoor
open Go
set_option linter.unusedVariables false
set_option linter.unusedSimpArgs false
theorem lAwakeC : lAwake 4000 = some true := by decide +kernel
theorem lCompares_law {a b : List TApiCell} (ha : a.all okCell = true) (hb : b.all okCell = true) : lCompares 4000 a b = some true := by
 unfold lCompares
 rw [lSmall_eq (by decide), lSmall_eq (by decide), lAwakeC]
 simp only [ov_some, Option.isSome_some, imp_tt, chk_t]
 cases hs : smallV a with
 | false => rfl
 | true =>
  cases ht : smallV b with
  | false => rfl
  | true =>
   have hA := CkA.of hs ha
   have hB := CkA.of ht hb
   obtain ⟨r, hr⟩ := rSame_total (F := 4000) (a := a) (b := b) (by have := hA.hv; omega) (by have := hA.hv; omega)
   rw [cnd_ff (p := !true || !true) rfl, vSame_rSame, hr, vCmp_eq hA hB (by decide) (by decide), rCmp_eq hA hB (by decide) (by decide)]
   simp only [ov_some, Option.isSome_some, imp_tt, chk_t, decide_true, Bool.true_and, Bool.and_true, beq_self_eq_true]
end Go.Proofs.YtkalifgebccpcaaGreatDoor
namespace Go.Proofs.YtkalifgebccpcaaGreatDoor.lawValueCompares
open Go
set_option linter.unusedVariables false
theorem law : Law := fun a b h1 h2 => ⟨4000, lCompares_law (Bool.and_eq_true_iff.1 h1).1 (Bool.and_eq_true_iff.1 h2).1⟩
end Go.Proofs.YtkalifgebccpcaaGreatDoor.lawValueCompares
