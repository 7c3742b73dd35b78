/-
  Texts of the proof, put together: LkA, LwConditions.
-/
import Derived.Test.YtjfnokmpfekniaaDoorMK3
/-
 What the store of the package kv computes. Plain laws.
-/
namespace Go.Proofs.YtjfnokmpfekniaaDoor
open Go
set_option linter.unusedVariables false
set_option linter.unusedSimpArgs false
theorem ou_go {R V : Type} (K : V → Option R) (v : V) : oute K (.go v) = K v := rfl
theorem lop_scan {α R U : Type} [Inhabited α] (l : List α) (P : α → Prop) (B : R → Prop) (u : U) (body : Int → Option (Stp Int (Out R U)))
  (h1 : ∀ (x : Int) (c : α), 0 ≤ x → x < (l.length : Int) → c ∈ l → at' l x = c → (body x = some (.next (x + 1)) ∧ P c) ∨ ∃ q, body x = some (.out (.ret q)) ∧ B q)
  (h2 : body (l.length : Int) = some (.out (.go u))) {F : Nat} (hF : l.length < F) :
  ∃ o, lop body F 0 = some o ∧ ((∃ q, o = .ret q ∧ B q) ∨ (o = .go u ∧ ∀ c ∈ l, P c)) := by
 refine lop_ind (fun x => 0 ≤ x ∧ x ≤ (l.length : Int) ∧ ∀ c ∈ l.take x.toNat, P c) (fun x => l.length - x.toNat) _ (fun x ⟨h0, hl, ha⟩ => ?_) F 0 ⟨Int.le_refl 0, by omega, by simp⟩ (by show l.length - 0 < F; omega)
 by_cases hx : x < (l.length : Int)
 ·obtain ⟨c, hc⟩ : ∃ c, l[x.toNat]? = some c := ⟨l[x.toNat]'(by omega), List.getElem?_eq_getElem (by omega)⟩
  have hat : at' l x = c := by simp [at', hc]
  rcases h1 x c h0 hx (List.mem_of_getElem? hc) hat with ⟨hb, hp⟩ | ⟨q, hb, hq⟩
  ·refine .inl ⟨x + 1, hb, ⟨by omega, by omega, fun d hd => ?_⟩, by omega⟩
   rw [show (x + 1).toNat = x.toNat + 1 from by omega, List.take_add_one, hc] at hd
   simp only [Option.toList_some, List.mem_append, List.mem_cons, List.not_mem_nil, or_false] at hd
   rcases hd with hd | rfl
   ·exact ha d hd
   ·exact hp
  ·exact .inr ⟨.ret q, hb, .inl ⟨q, rfl, hq⟩⟩
 ·have e : x = (l.length : Int) := by omega
  subst e
  refine .inr ⟨.go u, h2, .inr ⟨rfl, fun c hc => ha c ?_⟩⟩
  rw [show ((l.length : Int)).toNat = l.length from by omega, List.take_length]; exact hc
/-! ### small changes -/
structure SmC (c : TApiChange) : Prop where
 key : c.fKey.length ≤ 300
 val : c.fValue.length ≤ 300
 cells : ∀ x ∈ c.fValue, x.fStr.length ≤ 5000
structure SmP (l : List TApiChange) : Prop where
 len : l.length ≤ 300
 all : ∀ c ∈ l, SmC c
theorem lSmall_t {F : Nat} (hF : 5000 < F) (l : List TApiChange) : ∃ b, lSmall F l = some b ∧ (b = true → SmP l) := by
 unfold lSmall
 by_cases hl : (300 : Int) < (l.length : Int)
 ·rw [cnd_tt (decide_eq_true hl)]
  exact ⟨false, rfl, fun h => by cases h⟩
 ·rw [cnd_ff (decide_eq_false hl)]
  obtain ⟨o, h1, h2⟩ := lop_scan l SmC (fun q => q = false) () (fun σ => lSmall_b1 F l σ) (fun x c h0 hx hc hat => by
   by_cases hk : (300 : Int) < (c.fKey.length : Int) ∨ (300 : Int) < (c.fValue.length : Int)
   ·refine .inr ⟨false, ?_, rfl⟩
    show lSmall_b1 F l x = _
    unfold lSmall_b1
    rw [cnd_tt (decide_eq_true hx), chk_inR h0 hx, hat, cnd_tt (by simpa using hk)]
   ·obtain ⟨o, g1, g2⟩ := lop_scan c.fValue (fun y => y.fStr.length ≤ 5000) (fun q => q = .out (.ret false)) (((c.fValue.length : Int)), decide ((c.fValue.length : Int) < (c.fValue.length : Int))) (fun σ => lSmall_b2 l x σ) (fun y d y0 yx yc yat => by
     by_cases hd : (5000 : Int) < (d.fStr.length : Int)
     ·refine .inr ⟨_, ?_, rfl⟩
      show lSmall_b2 l x y = _
      unfold lSmall_b2
      rw [hat, cnd_tt (decide_eq_true yx), chk_inR y0 yx, yat, cnd_tt (decide_eq_true hd)]
     ·refine .inl ⟨?_, by omega⟩
      show lSmall_b2 l x y = _
      unfold lSmall_b2
      rw [hat, cnd_tt (decide_eq_true yx), chk_inR y0 yx, yat, cnd_ff (decide_eq_false hd), chk_i64 (by omega) (by omega)]) (by
     show lSmall_b2 l x _ = _
     unfold lSmall_b2
     rw [hat, cnd_ff (decide_eq_false (by omega))]) (F := F) (by omega)
    have hb : lSmall_b1 F l x = obn (some o) (oute fun ν => lSmall_k2 x ν.1 ν.2) := by
     unfold lSmall_b1
     rw [cnd_tt (decide_eq_true hx), chk_inR h0 hx, g1, hat, cnd_ff (by simpa using hk)]
    rcases g2 with ⟨q, rfl, rfl⟩ | ⟨rfl, g⟩
    ·exact .inr ⟨false, hb, rfl⟩
    ·refine .inl ⟨?_, ⟨by omega, by omega, g⟩⟩
     show lSmall_b1 F l x = _
     rw [hb, obn_s rfl, ou_go]
     unfold lSmall_k2
     rw [chk_i64 (by omega) (by omega)]) (by
   show lSmall_b1 F l _ = _
   unfold lSmall_b1
   rw [cnd_ff (decide_eq_false (by omega))]) (F := F) (by omega)
  rw [obn_s h1]
  rcases h2 with ⟨q, rfl, rfl⟩ | ⟨rfl, h⟩
  ·exact ⟨false, rfl, fun h => by cases h⟩
  ·exact ⟨true, rfl, fun _ => ⟨by omega, h⟩⟩
theorem lFew_t {F : Nat} (hF : 5000 < F) (l : List (List TApiChange)) : ∃ b, lFew F l = some b ∧ (b = true → l.length ≤ 30 ∧ ∀ m ∈ l, SmP m) := by
 unfold lFew
 by_cases hl : (30 : Int) < (l.length : Int)
 ·rw [cnd_tt (decide_eq_true hl)]
  exact ⟨false, rfl, fun h => by cases h⟩
 ·rw [cnd_ff (decide_eq_false hl)]
  obtain ⟨o, h1, h2⟩ := lop_scan l SmP (fun q => q = false) () (fun σ => lFew_b1 F l σ) (fun x m h0 hx hm hat => by
   obtain ⟨b, hb, hs⟩ := lSmall_t hF m
   have e : lFew_b1 F l x = cnd (!b) (some (.out (.ret false))) (some (.next (x + 1))) := by
    unfold lFew_b1
    rw [cnd_tt (decide_eq_true hx), chk_inR h0 hx, hat, hb, obn_s rfl, chk_i64 (by omega) (by omega)]
   cases b with
   | false => exact .inr ⟨false, e, rfl⟩
   | true => exact .inl ⟨e, hs rfl⟩) (by
   show lFew_b1 F l _ = _
   unfold lFew_b1
   rw [cnd_ff (decide_eq_false (by omega))]) (F := F) (by omega)
  rw [obn_s h1]
  rcases h2 with ⟨q, rfl, rfl⟩ | ⟨rfl, h⟩
  ·exact ⟨false, rfl, fun h => by cases h⟩
  ·exact ⟨true, rfl, fun _ => ⟨by omega, h⟩⟩
/-! ### changes that are checked -/
structure OkC (c : TApiChange) : Prop where
 iv : -9223372036854775808 ≤ c.fIfVersion ∧ c.fIfVersion ≤ 9223372036854775807
 cells : ∀ x ∈ c.fValue, inK .i64 x.fInt = true ∧ x.fN ≤ 9223372036854775807
theorem errV_ne {v : List TApiCell} : errV v ≠ 19 := by
 unfold errV
 cases whole v with
 | none => decide
 | some f =>
  show errF f ≠ 19
  unfold errF
  cases f.flat.any outC with
  | true => show (2 : Int) ≠ 19; decide
  | false =>
   simp only [cond_false]
   cases (f.flat.any longC || (decide (200 < f.flat.length) || (decide (8 < f.dep) || decide (4000 < (f.txt true).length)))) <;> decide
theorem kCheck_t {F : Nat} (hF : 5000 < F) {c : TApiChange} (hs : SmC c) (ho : OkC c) : ∃ e, kCheck F c = some e ∧ e ≠ 19 := by
 have hA : CkA 5000 c.fValue := ⟨by decide, by have := hs.val; omega, fun x hx => ⟨hs.cells x hx, (ho.cells x hx).1, (ho.cells x hx).2⟩⟩
 unfold kCheck
 rw [vCheck_eq hA (by decide) hF, obn_s rfl]
 cases idS c.fKey with
 | false => exact ⟨4, rfl, by decide⟩
 | true =>
  rw [cnd_ff (p := !true) rfl]
  cases (decide (c.fIfVersion < (-1)) || decide (1000000000000 < c.fIfVersion)) with
  | true => exact ⟨2, rfl, by decide⟩
  | false =>
   rw [cnd_ff rfl]
   cases (c.fDelete && decide (0 < (c.fValue.length : Int))) with
   | true => exact ⟨7, rfl, by decide⟩
   | false =>
    rw [cnd_ff rfl]
    cases c.fDelete with
    | true => exact ⟨0, rfl, by decide⟩
    | false => exact ⟨_, rfl, errV_ne⟩
theorem kValid_t {F : Nat} (hF : 5000 < F) {l : List TApiChange} (hs : SmP l) (ho : ∀ c ∈ l, OkC c) : ∃ e, kValid F l = some e ∧ e ≠ 19 := by
 have hl := hs.len
 unfold kValid
 by_cases h2 : (256 : Int) < (l.length : Int)
 ·rw [cnd_tt (decide_eq_true h2)]
  exact ⟨3, rfl, by decide⟩
 ·rw [cnd_ff (decide_eq_false h2)]
  obtain ⟨o, h1, h2⟩ := lop_scan l (fun _ => True) (fun q => q ≠ 19) () (fun σ => kValid_b1 F l σ) (fun x c h0 hx hc hat => by
   obtain ⟨e, he, hne⟩ := kCheck_t hF (hs.all c hc) (ho c hc)
   have hb : kValid_b1 F l x = cnd (!decide (e = 0)) (some (.out (.ret e))) (some (.next (x + 1))) := by
    unfold kValid_b1
    rw [cnd_tt (decide_eq_true hx), chk_inR h0 hx, hat, he, obn_s rfl, chk_i64 (by omega) (by omega)]
   cases hd : decide (e = 0) with
   | false => exact .inr ⟨e, by rw [hd] at hb; exact hb, hne⟩
   | true => exact .inl ⟨by rw [hd] at hb; exact hb, trivial⟩) (by
   show kValid_b1 F l _ = _
   unfold kValid_b1
   rw [cnd_ff (decide_eq_false (by omega))]) (F := F) (by omega)
  rw [obn_s h1]
  rcases h2 with ⟨q, rfl, hq⟩ | ⟨rfl, h⟩
  ·exact ⟨q, rfl, hq⟩
  ·exact ⟨0, rfl, by decide⟩
/-! ### one change -/
def zI : TApiItem := ⟨[], [], 0⟩
def curI (q : TKvStore) (k : Str) : TApiItem := (mget q.fChanged k).getD ((mget q.fItems k).getD zI)
def chg (q : TKvStore) (c : TApiChange) (size : Int) : Int × Int × TKvStore :=
 bif (decide (0 ≤ c.fIfVersion)) && (!decide (c.fIfVersion = (curI q c.fKey).fVersion)) then (0, 19, q) else
 bif c.fDelete then (bif decide (0 < (curI q c.fKey).fVersion) then size - 1 else size, 0, ⟨q.fItems, mset q.fChanged c.fKey zI⟩) else
 bif (decide ((curI q c.fKey).fVersion = 0)) && (decide (256 ≤ size)) then (0, 3, q) else
 bif decide (1000000000000 ≤ (curI q c.fKey).fVersion) then (0, 8, q) else
 (bif decide ((curI q c.fKey).fVersion = 0) then size + 1 else size, 0, ⟨q.fItems, mset q.fChanged c.fKey ⟨c.fKey, c.fValue, (curI q c.fKey).fVersion + 1⟩⟩)
theorem kNow_eq (q : TKvStore) (k : Str) : kNow q k = some (curI q k, q) := by
 unfold kNow curI mhas mval
 cases mget q.fChanged k <;> rfl
theorem cloneN_eq {ys : List TApiCell} (h : ys.length ≤ 1000000) : cloneN ys = some ys := by
 unfold cloneN
 rw [chk_t (by unfold inA; simp only [List.length_nil, decide_eq_true_eq]; omega)]; rfl
theorem kChange_eq {q : TKvStore} {c : TApiChange} {size : Int} (hs : -1000000000 ≤ size ∧ size ≤ 1000000000) (hv : 0 ≤ (curI q c.fKey).fVersion) (hl : c.fValue.length ≤ 300) : kChange q c size = some (chg q c size) := by
 unfold kChange chg kChange_j1
 rw [kNow_eq, obn_s rfl, cloneN_eq (by omega)]
 generalize curI q c.fKey = x at hv
 simp only
 cases (decide (0 ≤ c.fIfVersion) && !decide (c.fIfVersion = x.fVersion)) with
 | true => rfl
 | false =>
  rw [cnd_ff rfl]
  cases c.fDelete with
  | true =>
   rw [cnd_tt rfl]
   cases decide (0 < x.fVersion) with
   | true => rw [cnd_tt rfl, chk_i64 (by omega) (by omega)]; rfl
   | false => rfl
  | false =>
   rw [cnd_ff rfl]
   cases (decide (x.fVersion = 0) && decide (256 ≤ size)) with
   | true => rfl
   | false =>
    rw [cnd_ff rfl]
    cases hb : decide ((1000000000000 : Int) ≤ x.fVersion) with
    | true => rfl
    | false =>
     have hb' := of_decide_eq_false hb
     rw [cnd_ff rfl]
     cases decide (x.fVersion = 0) with
     | true => rw [cnd_tt rfl, chk_i64 (by omega) (by omega), obn_s rfl, chk_i64 (by omega) (by omega)]; rfl
     | false => rw [cnd_ff rfl, obn_s rfl, chk_i64 (by omega) (by omega)]; rfl
/-! ### what is kept -/
theorem mem_mset {T : Type} {xs : List (Str × T)} {k : Str} {v : T} {p : Str × T} (h : p ∈ mset xs k v) : p = (k, v) ∨ p ∈ xs := by
 unfold mset at h
 cases hh : mhas xs k with
 | false => rw [hh] at h; exact mem_mins h
 | true =>
  rw [hh] at h
  obtain ⟨q, hq, e⟩ := List.mem_map.1 h
  cases hk : decide (q.1 = k) with
  | true => rw [hk] at e; exact .inl e.symm
  | false => rw [hk] at e; exact .inr (e ▸ hq)
theorem mem_mdel {T : Type} {xs : List (Str × T)} {k : Str} {p : Str × T} (h : p ∈ mdel xs k) : p ∈ xs := (List.mem_filter.1 h).1
theorem mem_apF {T : Type} {del : T → Bool} {xs : List (Str × T)} {q p : Str × T} (h : p ∈ apF del xs q) : p ∈ xs ∨ (p = q ∧ del p.2 = false) := by
 unfold apF at h
 cases hd : del q.2 with
 | true => rw [hd] at h; exact .inl (mem_mdel h)
 | false =>
  rw [hd] at h
  rcases mem_mset h with e | h
  ·exact .inr ⟨e, by rw [e]; exact hd⟩
  ·exact .inl h
theorem mem_apFs {T : Type} {del : T → Bool} {p : Str × T} : ∀ {ord xs : List (Str × T)}, p ∈ ord.foldl (apF del) xs → p ∈ xs ∨ (p ∈ ord ∧ del p.2 = false)
 | [], xs, h => .inl h
 | q :: r, xs, h => by
  rcases mem_apFs (ord := r) h with h | ⟨h, h'⟩
  ·rcases mem_apF h with h2 | ⟨h2, h3⟩
   ·exact .inl h2
   ·exact .inr ⟨by rw [h2]; exact List.mem_cons_self .., h3⟩
  ·exact .inr ⟨List.mem_cons_of_mem _ h, h'⟩
theorem len_apF {T : Type} {del : T → Bool} (xs : List (Str × T)) (q : Str × T) : (apF del xs q).length ≤ xs.length + 1 := by
 unfold apF
 cases del q.2 with
 | true => exact Nat.le_succ_of_le (List.length_filter_le ..)
 | false =>
  show (mset xs q.1 q.2).length ≤ _
  rw [mset_length]; cases mhas xs q.1 <;> simp
theorem len_apFs {T : Type} {del : T → Bool} : ∀ (ord xs : List (Str × T)), (ord.foldl (apF del) xs).length ≤ xs.length + ord.length
 | [], xs => Nat.le_refl _
 | q :: r, xs => by
  have h1 := len_apFs (del := del) r (apF del xs q)
  have h2 := len_apF (del := del) xs q
  simp only [List.foldl_cons, List.length_cons]; omega
structure IOk (xs : List (Str × TApiItem)) : Prop where
 ms : Ms xs
 ok : ∀ p ∈ xs, 0 ≤ p.2.fVersion ∧ p.2.fVersion ≤ 1000000000000 ∧ p.2.fValue.length ≤ 300
theorem IOk.nil : IOk [] := ⟨Ms.nil, fun _ h => by cases h⟩
theorem IOk.set {xs : List (Str × TApiItem)} (h : IOk xs) {k : Str} {v : TApiItem} (hv : 0 ≤ v.fVersion ∧ v.fVersion ≤ 1000000000000 ∧ v.fValue.length ≤ 300) : IOk (mset xs k v) :=
 ⟨h.ms.mset k v, fun p hp => by
  rcases mem_mset hp with rfl | hp
  ·exact hv
  ·exact h.ok p hp⟩
theorem zI_ok : 0 ≤ zI.fVersion ∧ zI.fVersion ≤ 1000000000000 ∧ zI.fValue.length ≤ 300 := by decide
theorem IOk.get {xs : List (Str × TApiItem)} (h : IOk xs) (k : Str) : 0 ≤ ((mget xs k).getD zI).fVersion ∧ ((mget xs k).getD zI).fVersion ≤ 1000000000000 ∧ ((mget xs k).getD zI).fValue.length ≤ 300 := by
 cases e : mget xs k with
 | none => exact zI_ok
 | some v => exact h.ok _ (mget_some_mem e)
theorem curI_ok {q : TKvStore} (h1 : IOk q.fItems) (h2 : IOk q.fChanged) (k : Str) : 0 ≤ (curI q k).fVersion ∧ (curI q k).fVersion ≤ 1000000000000 ∧ (curI q k).fValue.length ≤ 300 := by
 unfold curI
 cases e : mget q.fChanged k with
 | none => exact h1.get k
 | some v => exact h2.ok _ (mget_some_mem e)
theorem chg_ok {q : TKvStore} {c : TApiChange} {size : Int} (h1 : IOk q.fItems) (h2 : IOk q.fChanged) (hl : c.fValue.length ≤ 300) :
  (chg q c size).2.2.fItems = q.fItems ∧ IOk (chg q c size).2.2.fChanged ∧ (chg q c size).2.2.fChanged.length ≤ q.fChanged.length + 1 ∧ ((chg q c size).2.1 = 0 → size - 1 ≤ (chg q c size).1 ∧ (chg q c size).1 ≤ size + 1) := by
 have hc := curI_ok h1 h2 c.fKey
 have hm : ∀ v : TApiItem, (mset q.fChanged c.fKey v).length ≤ q.fChanged.length + 1 := fun v => by rw [mset_length]; cases mhas q.fChanged c.fKey <;> simp
 unfold chg
 generalize curI q c.fKey = x at hc
 cases (decide (0 ≤ c.fIfVersion) && !decide (c.fIfVersion = x.fVersion)) with
 | true => exact ⟨rfl, h2, Nat.le_succ _, fun h => by cases h⟩
 | false =>
  cases c.fDelete with
  | true =>
   refine ⟨rfl, h2.set zI_ok, hm _, fun _ => ?_⟩
   show size - 1 ≤ (bif decide (0 < x.fVersion) then size - 1 else size) ∧ (bif decide (0 < x.fVersion) then size - 1 else size) ≤ size + 1
   cases decide (0 < x.fVersion) <;> simp only [cond_true, cond_false] <;> omega
  | false =>
   cases (decide (x.fVersion = 0) && decide (256 ≤ size)) with
   | true => exact ⟨rfl, h2, Nat.le_succ _, fun h => by cases h⟩
   | false =>
    cases hb : decide ((1000000000000 : Int) ≤ x.fVersion) with
    | true => exact ⟨rfl, h2, Nat.le_succ _, fun h => by cases h⟩
    | false =>
     have hb' := of_decide_eq_false hb
     refine ⟨rfl, h2.set ⟨?_, ?_, hl⟩, hm _, fun _ => ?_⟩
     ·show 0 ≤ x.fVersion + 1; omega
     ·show x.fVersion + 1 ≤ 1000000000000; omega
     ·show size - 1 ≤ (bif decide (x.fVersion = 0) then size + 1 else size) ∧ (bif decide (x.fVersion = 0) then size + 1 else size) ≤ size + 1
      cases decide (x.fVersion = 0) <;> simp only [cond_true, cond_false] <;> omega
/-! ### a list of changes -/
def chgs : List TApiChange → Int → TKvStore → Int × TKvStore
 | [], _, q => (0, q)
 | c :: r, size, q => bif !decide ((chg q c size).2.1 = 0) then ((chg q c size).2.1, (chg q c size).2.2) else chgs r (chg q c size).1 (chg q c size).2.2
theorem chgs_ok : ∀ (l : List TApiChange) {q : TKvStore} {size : Int}, (∀ c ∈ l, c.fValue.length ≤ 300) → IOk q.fItems → IOk q.fChanged → (chgs l size q).2.fItems = q.fItems ∧ IOk (chgs l size q).2.fChanged ∧ (chgs l size q).2.fChanged.length ≤ q.fChanged.length + l.length
 | [], q, size, _, h1, h2 => ⟨rfl, h2, Nat.le_refl _⟩
 | c :: r, q, size, hl, h1, h2 => by
  obtain ⟨a1, a2, a3, _⟩ := chg_ok (size := size) h1 h2 (hl c (List.mem_cons_self ..))
  rw [chgs]
  cases decide ((chg q c size).2.1 = 0) with
  | false => exact ⟨a1, a2, by simp only [List.length_cons]; exact Nat.le_trans a3 (by omega)⟩
  | true =>
   obtain ⟨b1, b2, b3⟩ := chgs_ok r (q := (chg q c size).2.2) (size := (chg q c size).1) (fun d hd => hl d (List.mem_cons_of_mem _ hd)) (by rw [a1]; exact h1) a2
   exact ⟨b1.trans a1, b2, by simp only [List.length_cons, Bool.not_true, cond_false]; omega⟩
def outA (t : Int × TKvStore) : Out (Int × TKvStore) ((List (Str × TApiItem)) × (List (Str × TApiItem))) := bif !decide (t.1 = 0) then .ret t else .go (t.2.fItems, t.2.fChanged)
theorem kApply_loop {l : List TApiChange} (hlen : l.length ≤ 300) (hsm : ∀ c ∈ l, c.fValue.length ≤ 300) (r : List TApiChange) : ∀ (F : Nat) (size x : Int) (q : TKvStore), 0 ≤ x → x + r.length = l.length → l.drop x.toNat = r → r.length < F → IOk q.fItems → IOk q.fChanged → -1000000 + (r.length : Int) ≤ size → size ≤ 1000000 - (r.length : Int) →
  lop (fun σ => kApply_b1 l σ.1 σ.2.1 σ.2.2.1 σ.2.2.2) F (size, x, q.fItems, q.fChanged) = some (outA (chgs r size q)) := by
 induction r with
 | nil =>
  intro F size x q h0 hx hd hF h1 h2 hs1 hs2
  obtain ⟨F, rfl⟩ : ∃ G, F = G + 1 := ⟨F - 1, by simp at hF; omega⟩
  have hx' : x = (l.length : Int) := by simpa using hx
  have hb : kApply_b1 l size x q.fItems q.fChanged = some (.out (.go (q.fItems, q.fChanged))) := by
   unfold kApply_b1
   rw [cnd_ff (decide_eq_false (by omega))]
  rw [lop]
  simp only [hb]
  rfl
 | cons c r ih =>
  intro F size x q h0 hx hd hF h1 h2 hs1 hs2
  simp only [List.length_cons] at hx hF hs1 hs2
  obtain ⟨F, rfl⟩ : ∃ G, F = G + 1 := ⟨F - 1, by omega⟩
  have hxl : x < (l.length : Int) := by omega
  have hc : l[x.toNat]? = some c := by
   have := congrArg (·[0]?) hd
   simpa using this
  have hat : at' l x = c := by simp [at', hc]
  have hm : c ∈ l := List.mem_of_getElem? hc
  have hq := curI_ok h1 h2 c.fKey
  have hch : kChange q c size = some (chg q c size) := kChange_eq ⟨by omega, by omega⟩ hq.1 (hsm c hm)
  obtain ⟨a1, a2, _, a4⟩ := chg_ok (size := size) h1 h2 (hsm c hm)
  have hb : kApply_b1 l size x q.fItems q.fChanged = cnd (!decide ((chg q c size).2.1 = 0)) (some (.out (.ret ((chg q c size).2.1, (chg q c size).2.2)))) (some (.next ((chg q c size).1, x + 1, (chg q c size).2.2.fItems, (chg q c size).2.2.fChanged))) := by
   unfold kApply_b1
   rw [cnd_tt (decide_eq_true hxl), chk_inR h0 hxl, hat, hch, obn_s rfl, chk_i64 (by omega) (by omega)]
  rw [lop]
  simp only [hb]
  rw [chgs]
  generalize hg : chg q c size = t at a1 a2 a4
  cases he : decide (t.2.1 = 0) with
  | false =>
   simp only [Bool.not_false, cond_true, cnd]
   rw [outA]
   simp only [he]; rfl
  | true =>
   obtain ⟨s1, s2⟩ := a4 (of_decide_eq_true he)
   simp only [Bool.not_true, cond_false, cnd]
   have hd2 : l.drop (x + 1).toNat = r := by
    have := congrArg (·.drop 1) hd
    rw [List.drop_drop] at this
    rw [show (x + 1).toNat = x.toNat + 1 from by omega]
    simpa using this
   exact ih F _ (x + 1) t.2.2 (by omega) (by omega) hd2 (by omega) (by rw [a1]; exact h1) a2 (by omega) (by omega)
def delI (x : TApiItem) : Bool := decide (x.fVersion = 0)
theorem kApply_k1_eq {xs ys : List (Str × TApiItem)} (hx : Ms xs) (hy : Ms ys) : kApply_k1 xs ys = some (0, ⟨ys.foldl (apF delI) xs, ys⟩) := by
 unfold kApply_k1
 refine mobn_s fun p hp => ?_
 obtain ⟨h1, _⟩ := lfe_fold (fun p τ => kApply_b2 p.1 p.2 τ) (fun p τ => apF delI τ p) (fun _ => True) p xs trivial (fun z _ s _ => ⟨by
  unfold kApply_b2 apF
  show _ = some (Stp.next (bif delI z.2 then _ else _))
  cases hd : delI z.2 with
  | true => exact (cnd_tt (show decide (z.2.fVersion = 0) = true from hd)).trans rfl
  | false => exact (cnd_ff (show decide (z.2.fVersion = 0) = false from hd)).trans rfl, trivial⟩)
 rw [h1, obn_s rfl, ou_go]
 show some (0, TKvStore.mk (p.foldl (apF delI) xs) ys) = _
 rw [apFs_perm hx hy hp]
def appl (e0 : Int) (q : TKvStore) (l : List TApiChange) : Int × TKvStore :=
 bif !decide (e0 = 0) then (e0, q) else
 bif !decide ((chgs l (q.fItems.length : Int) ⟨q.fItems, []⟩).1 = 0) then chgs l (q.fItems.length : Int) ⟨q.fItems, []⟩ else
 (0, ⟨(chgs l (q.fItems.length : Int) ⟨q.fItems, []⟩).2.fChanged.foldl (apF delI) q.fItems, (chgs l (q.fItems.length : Int) ⟨q.fItems, []⟩).2.fChanged⟩)
theorem kApply_eq {F : Nat} (hF : 5000 < F) {q : TKvStore} {l : List TApiChange} {e0 : Int} (he : kValid F l = some e0) (hs : SmP l) (hq : IOk q.fItems) (hn : q.fItems.length ≤ 100000) : kApply F q l = some (appl e0 q l) := by
 have hlen := hs.len
 have hsm : ∀ c ∈ l, c.fValue.length ≤ 300 := fun c hc => (hs.all c hc).val
 unfold kApply appl kMade
 rw [obn_s rfl, cnd_ff (p := !true) rfl, he, obn_s rfl]
 cases decide (e0 = 0) with
 | false => rfl
 | true =>
  rw [cnd_ff (p := !true) rfl]
  have hl := kApply_loop hlen hsm l F (q.fItems.length : Int) 0 ⟨q.fItems, []⟩ (by omega) (by omega) (by simp) (by omega) hq IOk.nil (by omega) (by omega)
  rw [obn_s hl]
  obtain ⟨b1, b2, _⟩ := chgs_ok l (q := ⟨q.fItems, []⟩) (size := (q.fItems.length : Int)) hsm hq IOk.nil
  generalize chgs l (q.fItems.length : Int) ⟨q.fItems, []⟩ = t at b1 b2
  unfold outA
  cases hd : decide (t.1 = 0) with
  | false => rfl
  | true =>
   show kApply_k1 t.2.fItems t.2.fChanged = _
   rw [b1, kApply_k1_eq hq.ms b2.ms]; rfl
structure QOk (q : TKvStore) (n : Nat) : Prop where
 ok : IOk q.fItems
 pos : ∀ p ∈ q.fItems, 1 ≤ p.2.fVersion
 len : q.fItems.length ≤ n
theorem appl_ok {e0 : Int} {q : TKvStore} {n : Nat} {l : List TApiChange} (h : QOk q n) (hl : l.length ≤ 300) (hsm : ∀ c ∈ l, c.fValue.length ≤ 300) : QOk (appl e0 q l).2 (n + 300) := by
 obtain ⟨b1, b2, b3⟩ := chgs_ok l (q := ⟨q.fItems, []⟩) (size := (q.fItems.length : Int)) hsm h.ok IOk.nil
 have hlen := h.len
 unfold appl
 cases decide (e0 = 0) with
 | false => exact ⟨h.ok, h.pos, by show q.fItems.length ≤ n + 300; omega⟩
 | true =>
  show QOk (bif !decide ((chgs l (q.fItems.length : Int) ⟨q.fItems, []⟩).1 = 0) then chgs l (q.fItems.length : Int) ⟨q.fItems, []⟩ else (0, ⟨(chgs l (q.fItems.length : Int) ⟨q.fItems, []⟩).2.fChanged.foldl (apF delI) q.fItems, (chgs l (q.fItems.length : Int) ⟨q.fItems, []⟩).2.fChanged⟩)).2 (n + 300)
  generalize chgs l (q.fItems.length : Int) ⟨q.fItems, []⟩ = t at b1 b2 b3
  simp only [List.length_nil, Nat.zero_add] at b3
  cases decide (t.1 = 0) with
  | false => exact ⟨by show IOk t.2.fItems; rw [b1]; exact h.ok, by show ∀ p ∈ t.2.fItems, _; rw [b1]; exact h.pos, by show t.2.fItems.length ≤ _; rw [b1]; show q.fItems.length ≤ n + 300; omega⟩
  | true =>
   refine ⟨⟨apFs_ms _ h.ok.ms, fun p hp => ?_⟩, fun p hp => ?_, ?_⟩
   ·rcases mem_apFs hp with hp | ⟨hp, _⟩
    ·exact h.ok.ok p hp
    ·exact b2.ok p hp
   ·rcases mem_apFs hp with hp | ⟨hp, hd⟩
    ·exact h.pos p hp
    ·have := (b2.ok p hp).1
     have := of_decide_eq_false hd
     omega
   ·show (t.2.fChanged.foldl (apF delI) q.fItems).length ≤ n + 300
    have := len_apFs (del := delI) t.2.fChanged q.fItems
    omega
theorem kGet_eq {q : TKvStore} (h : IOk q.fItems) (k : Str) : kGet q k = some ((mget q.fItems k).getD zI, (mget q.fItems k).isSome, q) := by
 have hg := h.get k
 unfold kGet kMade kOwn mval mhas
 rw [obn_s rfl, cnd_ff (p := !true) rfl]
 show obn (obn (cloneN ((mget q.fItems k).getD zI).fValue) fun r3 => some (TApiItem.mk ((mget q.fItems k).getD zI).fKey r3 ((mget q.fItems k).getD zI).fVersion)) _ = _
 rw [cloneN_eq (by omega)]; rfl
theorem kLen_eq (q : TKvStore) : kLen q = some ((q.fItems.length : Int), q) := rfl
end Go.Proofs.YtjfnokmpfekniaaDoor

/-
 The plain law of KvConditions: for all changes whose numbers fit.
-/
namespace Go.Proofs.YtjfnokmpfekniaaDoor
open Go
set_option linter.unusedVariables false
set_option linter.unusedSimpArgs false
theorem lAwake_ok : lAwake 6000 = some true := by decide +kernel
theorem im_tt (a : Bool) : imp a true = true := by cases a <;> rfl
theorem o_some {α : Type} [Inhabited α] (a : α) : ov (some a) = a := rfl
theorem appl_one {xs ys : List (Str × TApiItem)} {c : TApiChange} (hi : 0 ≤ c.fIfVersion) :
  appl 0 ⟨xs, ys⟩ [c] = bif !decide (c.fIfVersion = ((mget xs c.fKey).getD zI).fVersion) then (19, ⟨xs, []⟩) else
   bif c.fDelete then (0, ⟨mdel xs c.fKey, [(c.fKey, zI)]⟩) else
   bif (decide (((mget xs c.fKey).getD zI).fVersion = 0) && decide (256 ≤ (xs.length : Int))) then (3, ⟨xs, []⟩) else
   bif decide (1000000000000 ≤ ((mget xs c.fKey).getD zI).fVersion) then (8, ⟨xs, []⟩) else
   (0, ⟨apF delI xs (c.fKey, ⟨c.fKey, c.fValue, ((mget xs c.fKey).getD zI).fVersion + 1⟩), [(c.fKey, ⟨c.fKey, c.fValue, ((mget xs c.fKey).getD zI).fVersion + 1⟩)]⟩) := by
 have hc : curI ⟨xs, []⟩ c.fKey = (mget xs c.fKey).getD zI := rfl
 have h1 : appl 0 ⟨xs, ys⟩ [c] = bif !decide ((chg ⟨xs, []⟩ c (xs.length : Int)).2.1 = 0) then ((chg ⟨xs, []⟩ c (xs.length : Int)).2.1, (chg ⟨xs, []⟩ c (xs.length : Int)).2.2) else (0, ⟨(chg ⟨xs, []⟩ c (xs.length : Int)).2.2.fChanged.foldl (apF delI) xs, (chg ⟨xs, []⟩ c (xs.length : Int)).2.2.fChanged⟩) := by
  have hch : chgs [c] (xs.length : Int) ⟨xs, []⟩ = bif !decide ((chg ⟨xs, []⟩ c (xs.length : Int)).2.1 = 0) then ((chg ⟨xs, []⟩ c (xs.length : Int)).2.1, (chg ⟨xs, []⟩ c (xs.length : Int)).2.2) else (0, (chg ⟨xs, []⟩ c (xs.length : Int)).2.2) := rfl
  show (bif !decide ((chgs [c] (xs.length : Int) ⟨xs, []⟩).1 = 0) then chgs [c] (xs.length : Int) ⟨xs, []⟩ else (0, ⟨(chgs [c] (xs.length : Int) ⟨xs, []⟩).2.fChanged.foldl (apF delI) xs, (chgs [c] (xs.length : Int) ⟨xs, []⟩).2.fChanged⟩)) = _
  rw [hch]
  generalize chg ⟨xs, []⟩ c (xs.length : Int) = t
  cases hd : decide (t.2.1 = 0) with
  | false => simp only [hd, Bool.not_false, cond_true]
  | true => rfl
 rw [h1]
 unfold chg
 rw [hc]
 generalize (mget xs c.fKey).getD zI = x
 have hi' := decide_eq_true hi
 cases decide (c.fIfVersion = x.fVersion) with
 | false => rw [hi']; rfl
 | true =>
  rw [hi']
  cases c.fDelete with
  | true => rfl
  | false =>
   cases (decide (x.fVersion = 0) && decide (256 ≤ (xs.length : Int))) with
   | true => rfl
   | false =>
    cases decide (1000000000000 ≤ x.fVersion) with
    | true => rfl
    | false => rfl
theorem k1_law {F : Nat} (hF : 5000 < F) (hw : lAwake F = some true) {c : TApiChange} {xs ys : List (Str × TApiItem)} (hq : QOk ⟨xs, ys⟩ 9000) (hs : SmP [c]) (ho : OkC c) (hi : 0 ≤ c.fIfVersion) (hi2 : c.fIfVersion ≤ 1000) : lConditions_k1 F c xs ys = some true := by
 obtain ⟨e0, he, hne⟩ := kValid_t hF hs (by simpa using ho)
 have hx : IOk xs := hq.ok
 have hlen : xs.length ≤ 9000 := hq.len
 have hpos : ∀ p ∈ xs, 1 ≤ p.2.fVersion := hq.pos
 have hsm : ∀ d ∈ [c], d.fValue.length ≤ 300 := fun d hd => (hs.all d hd).val
 have hq2 := appl_ok (e0 := e0) hq (by simp) hsm
 unfold lConditions_k1
 rw [kGet_eq (q := ⟨xs, ys⟩) hx, obn_s rfl, kLen_eq, obn_s rfl]
 dsimp only
 rw [kApply_eq (q := ⟨xs, ys⟩) hF he hs hx (by show xs.length ≤ 100000; omega), obn_s rfl, hw]
 cases hd : decide (e0 = 0) with
 | false =>
  have e1 : appl e0 ⟨xs, ys⟩ [c] = (e0, ⟨xs, ys⟩) := by unfold appl; rw [hd]; rfl
  rw [e1]
  dsimp only
  rw [hd, decide_eq_false hne]; rfl
 | true =>
  have e0z := of_decide_eq_true hd
  subst e0z
  rw [appl_one hi] at hq2 ⊢
  have hgv : ∀ v, mget xs c.fKey = some v → 1 ≤ v.fVersion := fun v hv => hpos _ (mget_some_mem hv)
  cases hv : decide (c.fIfVersion = ((mget xs c.fKey).getD zI).fVersion) with
  | false =>
   have hv' := of_decide_eq_false hv
   simp only [Bool.not_false, cond_true]
   cases hg : mget xs c.fKey with
   | none =>
    rw [hg] at hv'
    have : ¬ c.fIfVersion = 0 := hv'
    simp only [Option.isSome_none, cond_false, decide_eq_false this]; rfl
   | some v =>
    rw [hg] at hv'
    have : ¬ v.fVersion = c.fIfVersion := fun e => hv' e.symm
    simp only [Option.isSome_some, cond_true, Option.getD_some, decide_eq_false this]; rfl
  | true =>
   have hv' := of_decide_eq_true hv
   simp only [hv, Bool.not_true, cond_false] at hq2 ⊢
   have hsec : ∀ z : Bool, z = true → (bif (mget xs c.fKey).isSome then (bif decide (((mget xs c.fKey).getD zI).fVersion = c.fIfVersion) then !(z == true) else !(z == false)) else !(z == decide (c.fIfVersion = 0))) = false := fun z hz => by
    subst hz
    cases hg : mget xs c.fKey with
    | none =>
     rw [hg] at hv'
     have : c.fIfVersion = 0 := hv'
     rw [decide_eq_true this]; rfl
    | some v =>
     rw [hg] at hv'
     have : v.fVersion = c.fIfVersion := hv'.symm
     simp only [Option.isSome_some, cond_true, Option.getD_some, decide_eq_true this]; rfl
   cases hdel : c.fDelete with
   | true =>
    simp only [hdel, cond_true] at hq2 ⊢
    have hl := mdel_length hx.ms c.fKey
    rw [hsec _ (by simp)]
    rw [cnd_ff (by simp), cnd_ff rfl, cnd_ff (by simp)]
    rw [kGet_eq (q := ⟨mdel xs c.fKey, [(c.fKey, zI)]⟩) hq2.ok, obn_s rfl]
    dsimp only
    have hgd : mget (mdel xs c.fKey) c.fKey = none := by rw [mget_mdel, decide_eq_true rfl]; rfl
    rw [hgd, cnd_tt rfl, cnd_tt (by simp), kLen_eq, obn_s rfl]
    dsimp only
    unfold lConditions_j2
    rw [obn_s rfl]
    unfold mhas at hl
    cases hg : mget xs c.fKey with
    | none =>
     rw [hg] at hl
     rw [hl]
     simp only [Option.isSome_none, cond_false]
     rw [cnd_tt (by simp)]
    | some v =>
     rw [hg] at hl
     have hp : 0 < xs.length := List.length_pos_of_mem (mget_some_mem hg)
     rw [hl]
     simp only [Option.isSome_some, cond_true]
     rw [cnd_ff (decide_eq_false (by omega)), cnd_tt rfl, kLen_eq, obn_s rfl]
     dsimp only
     rw [chk_i64 (by omega) (by omega), hl]
     simp only [hg, Option.isSome_some, cond_true]
     rw [cnd_tt (decide_eq_true (by omega))]
   | false =>
    simp only [hdel, cond_false] at hq2 ⊢
    cases hl3 : (decide (((mget xs c.fKey).getD zI).fVersion = 0) && decide (256 ≤ (xs.length : Int))) with
    | true => rfl
    | false =>
     simp only [hl3, cond_false] at hq2 ⊢
     cases hl8 : decide (1000000000000 ≤ ((mget xs c.fKey).getD zI).fVersion) with
     | true => rfl
     | false =>
      simp only [hl8, cond_false] at hq2 ⊢
      rw [hsec _ (by simp)]
      rw [cnd_ff (by simp), cnd_ff rfl, cnd_ff (by simp)]
      have hgi := hx.get c.fKey
      rw [← hv'] at hq2 ⊢
      rw [kGet_eq (q := ⟨apF delI xs (c.fKey, ⟨c.fKey, c.fValue, c.fIfVersion + 1⟩), [(c.fKey, ⟨c.fKey, c.fValue, c.fIfVersion + 1⟩)]⟩) hq2.ok, obn_s rfl]
      dsimp only
      have hdl : delI ⟨c.fKey, c.fValue, c.fIfVersion + 1⟩ = false := decide_eq_false (by show ¬ c.fIfVersion + 1 = 0; omega)
      have hgs : mget (apF delI xs (c.fKey, ⟨c.fKey, c.fValue, c.fIfVersion + 1⟩)) c.fKey = some ⟨c.fKey, c.fValue, c.fIfVersion + 1⟩ := by
       rw [mget_apF, decide_eq_true rfl, hdl]; rfl
      have hl2 := hq2.len
      rw [hgs, cnd_ff rfl, cnd_tt (by simp), chk_i64 (by omega) (by omega)]
      simp only [Option.getD_some]
      have e2 : appl 0 ⟨apF delI xs (c.fKey, ⟨c.fKey, c.fValue, c.fIfVersion + 1⟩), [(c.fKey, ⟨c.fKey, c.fValue, c.fIfVersion + 1⟩)]⟩ [c] = (19, ⟨apF delI xs (c.fKey, ⟨c.fKey, c.fValue, c.fIfVersion + 1⟩), []⟩) := by
       rw [appl_one hi, hgs]
       simp only [Option.getD_some]
       rw [decide_eq_false (by omega : ¬ c.fIfVersion = c.fIfVersion + 1)]; rfl
      rw [cnd_tt (by simp), kApply_eq (q := ⟨apF delI xs (c.fKey, ⟨c.fKey, c.fValue, c.fIfVersion + 1⟩), [(c.fKey, ⟨c.fKey, c.fValue, c.fIfVersion + 1⟩)]⟩) hF he hs hq2.ok (by omega), obn_s rfl, e2]; rfl
theorem lConditions_law {l : List (List TApiChange)} {c : TApiChange} (hl : ∀ m ∈ l, ∀ d ∈ m, OkC d) (hc : OkC c) : lConditions 6000 l c = some true := by
 obtain ⟨b, hb, hs⟩ := lFew_t (F := 6000) (by decide) l
 obtain ⟨b', hb', hs'⟩ := lSmall_t (F := 6000) (by decide) [c]
 unfold lConditions
 rw [hb, hb']
 simp only [Option.isSome_some, im_tt, chk_t, o_some]
 cases hA : (!b || (!b' || (decide (c.fIfVersion < 0) || decide (1000 < c.fIfVersion)))) with
 | true => rw [cnd_tt rfl, lAwake_ok]; rfl
 | false =>
  simp only [Bool.or_eq_false_iff, Bool.not_eq_false', decide_eq_false_iff_not] at hA
  obtain ⟨h1, h2, h3, h4⟩ := hA
  obtain ⟨hlen, hsm⟩ := hs h1
  rw [cnd_ff rfl]
  unfold kNew
  rw [obn_s rfl]
  obtain ⟨o, g1, g2⟩ := lop_ind (body := fun σ : Int × List (Str × TApiItem) × List (Str × TApiItem) => lConditions_b1 6000 l σ.1 σ.2.1 σ.2.2) (fun σ => 0 ≤ σ.1 ∧ σ.1 ≤ (l.length : Int) ∧ QOk ⟨σ.2.1, σ.2.2⟩ (300 * σ.1.toNat)) (fun σ => l.length - σ.1.toNat)
   (fun o => ∃ xs ys, o = .go (xs, ys) ∧ QOk ⟨xs, ys⟩ 9000) (fun ⟨x, xs, ys⟩ ⟨h0, hxl, hq⟩ => by
    dsimp only at h0 hxl hq ⊢
    by_cases hx : x < (l.length : Int)
    ·obtain ⟨m, hm⟩ : ∃ m, l[x.toNat]? = some m := ⟨l[x.toNat]'(by omega), List.getElem?_eq_getElem (by omega)⟩
     have hat : at' l x = m := by simp [at', hm]
     have hmm : m ∈ l := List.mem_of_getElem? hm
     obtain ⟨e0, he, _⟩ := kValid_t (F := 6000) (by decide) (hsm m hmm) (hl m hmm)
     have hln : xs.length ≤ 300 * x.toNat := hq.len
     have hq2 := appl_ok (e0 := e0) hq (hsm m hmm).len (fun d hd => ((hsm m hmm).all d hd).val)
     refine .inl ⟨(x + 1, (appl e0 ⟨xs, ys⟩ m).2.fItems, (appl e0 ⟨xs, ys⟩ m).2.fChanged), ?_, ⟨by show 0 ≤ x + 1; omega, by show x + 1 ≤ _; omega, ?_⟩, by show l.length - (x + 1).toNat < l.length - x.toNat; omega⟩
     ·unfold lConditions_b1
      rw [cnd_tt (decide_eq_true hx), chk_inR h0 hx, hat, kApply_eq (by decide) he (hsm m hmm) hq.ok (by show xs.length ≤ 100000; omega), obn_s rfl, chk_i64 (by omega) (by omega)]
     ·have e : 300 * (x + 1).toNat = 300 * x.toNat + 300 := by omega
      show QOk (appl e0 ⟨xs, ys⟩ m).2 (300 * (x + 1).toNat)
      rw [e]; exact hq2
    ·refine .inr ⟨.go (xs, ys), by unfold lConditions_b1; rw [cnd_ff (decide_eq_false hx)], xs, ys, rfl, hq.ok, hq.pos, ?_⟩
     have := hq.len
     show xs.length ≤ 9000
     have h5 : xs.length ≤ 300 * x.toNat := this
     omega) 6000 (0, [], []) ⟨Int.le_refl 0, by show (0 : Int) ≤ _; omega, IOk.nil, fun _ h => by (cases h), Nat.le_refl _⟩ (by show l.length - 0 < 6000; omega)
  obtain ⟨xs, ys, rfl, hq⟩ := g2
  rw [obn_s g1, ou_go]
  exact k1_law (by decide) lAwake_ok hq (hs' h2) hc (by omega) (by omega)
end Go.Proofs.YtjfnokmpfekniaaDoor
namespace Go.Proofs.YtjfnokmpfekniaaDoor.lawKvConditions
open Go
set_option linter.unusedVariables false
theorem okC {c : TApiChange} (h : ok25 c = true) : OkC c := by
 unfold ok25 at h
 simp only [Bool.and_eq_true, List.all_eq_true, decide_eq_true_eq] at h
 refine ⟨inK_i64 h.2, fun x hx => ?_⟩
 have := h.1.2.1 x hx
 unfold ok42 at this
 simp only [Bool.and_eq_true] at this
 exact ⟨this.1.1.2, (inK_i64 this.2).2⟩
theorem law : Law := fun l c h1 h2 => ⟨6000, lConditions_law (fun m hm d hd => by
 simp only [Bool.and_eq_true, List.all_eq_true, decide_eq_true_eq] at h1
 exact okC ((h1.1 m hm).1 d hd)) (okC h2)⟩
end Go.Proofs.YtjfnokmpfekniaaDoor.lawKvConditions
