/-
  Texts of the proof, put together: WKa, PKb, WKb, PKc, QW.
-/
import Derived.Test.YtjfnokmpfekniaaGreatDoorMW3
/-
  Walks, printed by a small program of ours (gq.py).
-/
namespace Go.Proofs.YtjfnokmpfekniaaGreatDoor.Q
open Go Go.RowKit
set_option linter.unusedVariables false
set_option linter.unusedSimpArgs false
set_option maxRecDepth 100000
set_option maxHeartbeats 4000000
@[reducible] def eTApiChange (x : TApiChange) : List Rp := [rS x.fKey, rB x.fDelete, rSl 4 (List.map eTApiCell x.fValue), rI .i64 x.fIfVersion]
theorem eTApiChange_len (x : TApiChange) : (eTApiChange x).length = 4 := rfl
@[reducible] def eTApiItem (x : TApiItem) : List Rp := [rS x.fKey, rSl 4 (List.map eTApiCell x.fValue), rI .i64 x.fVersion]
theorem eTApiItem_len (x : TApiItem) : (eTApiItem x).length = 3 := rfl
theorem eTApiItem_one (x : TApiItem) : (eTApiItem x).all (·.one) = true := rfl
@[reducible] def m_TApiItem (x : TApiItem) : Rp := rAgg (eTApiItem x)
theorem m_TApiItem_z (Z : Fz) : (m_TApiItem (TApiItem.mk ([] : Str) ([] : (List TApiCell)) 0)).p Z (.agg #[(.string ⟨#[]⟩), (.slice none 0 0), (.int .i64 0)]) := ⟨[.string ⟨#[]⟩, .slice none 0 0, .int .i64 0], rfl, rfl, SlZ.nil _ _, rfl, trivial⟩
theorem info35 : ∃ inf, Tryz.prog.info? 35 = some inf ∧ inf.zero = some (.agg #[(.string ⟨#[]⟩), (.slice none 0 0), (.int .i64 0)]) ∧ inf.size = 3 ∧ inf.bytes = 48 := by
  have key : (Tryz.prog.info? 35).map (fun i => (i.zero, i.size, i.bytes)) = some (some (.agg #[(.string ⟨#[]⟩), (.slice none 0 0), (.int .i64 0)]), 3, 48) := by kernel_rfl
  obtain ⟨inf, h1, h2⟩ := Option.map_eq_some_iff.1 key
  simp only [Prod.mk.injEq] at h2
  exact ⟨inf, h1, h2.1, h2.2.1, h2.2.2⟩
theorem info78 : ∃ inf, Tryz.prog.info? 78 = some inf ∧ inf.zero = some (.agg #[(.int .i64 0), (.int .i64 0), (.string ⟨#[]⟩), (.int .i64 0)]) ∧ inf.size = 4 ∧ inf.bytes = 40 := by
  have key : (Tryz.prog.info? 78).map (fun i => (i.zero, i.size, i.bytes)) = some (some (.agg #[(.int .i64 0), (.int .i64 0), (.string ⟨#[]⟩), (.int .i64 0)]), 4, 40) := by kernel_rfl
  obtain ⟨inf, h1, h2⟩ := Option.map_eq_some_iff.1 key
  simp only [Prod.mk.injEq] at h2
  exact ⟨inf, h1, h2.1, h2.2.1, h2.2.2⟩
theorem built35 (parts : List (Nat × Value)) : Tryz.prog.built 35 parts = Instr.fill (fun i => (#[(0, 1), (1, 1), (2, 1)] : Array (Nat × Nat))[i]?) #[(.string ⟨#[]⟩), ((.slice none 0 0)), (.int .i64 0)] parts := by kernel_rfl
theorem o_build35_ {n : Nat} {c : Cx} {l : Fr} {H : List Ent} {d : Option Nat} {ty : TypeId} {pos : String} {af : Array Edge} {g : Option (Nat × Bool)} : ORun Tryz.prog n c l H { dst := d, op := .build 35 #[], type := ty, pos := pos, after := af, guard := g } (rAgg [rS ([] : Str), rv (.slice none 0 0), rI .i64 0]) := fun a w Z ha _ => by
  have hb : Tryz.prog.built 35 [] = some #[(.string ⟨#[]⟩), ((.slice none 0 0)), (.int .i64 0)] := by
    rw [built35]
    simp [Instr.fill, Value.cells]
  refine ⟨.agg #[(.string ⟨#[]⟩), ((.slice none 0 0)), (.int .i64 0)], ⟨[(.string ⟨#[]⟩), ((.slice none 0 0)), (.int .i64 0)], rfl, rfl, rfl, rfl, trivial⟩, ?_⟩
  have := run_build w 35 #[] _ (by simpa using hb)
  simp [execOp, this]
theorem o_build35_0_1_2 {n : Nat} {c : Cx} {l : Fr} {H : List Ent} {d : Option Nat} {ty : TypeId} {pos : String} {af : Array Edge} {g : Option (Nat × Bool)} {x0 : Operand} {r0 : Rp} (h0 : ev l x0 = some r0) (u0 : r0.one = true) {x1 : Operand} {r1 : Rp} (h1 : ev l x1 = some r1) (u1 : r1.one = true) {x2 : Operand} {r2 : Rp} (h2 : ev l x2 = some r2) (u2 : r2.one = true) : ORun Tryz.prog n c l H { dst := d, op := .build 35 #[(0, x0), (1, x1), (2, x2)], type := ty, pos := pos, after := af, guard := g } (rAgg [r0, r1, r2]) := fun a w Z ha _ => by
  have p0 := ha.ev h0
  have c0 := cells_one (r0.hone u0 Z _ p0)
  have p1 := ha.ev h1
  have c1 := cells_one (r1.hone u1 Z _ p1)
  have p2 := ha.ev h2
  have c2 := cells_one (r2.hone u2 Z _ p2)
  have hb : Tryz.prog.built 35 [(0, a.eval x0), (1, a.eval x1), (2, a.eval x2)] = some #[a.eval x0, a.eval x1, a.eval x2] := by
    rw [built35]
    generalize a.eval x0 = v0 at *
    generalize a.eval x1 = v1 at *
    generalize a.eval x2 = v2 at *
    simp [Instr.fill, c0, c1, c2]
  refine ⟨.agg #[a.eval x0, a.eval x1, a.eval x2], ⟨[a.eval x0, a.eval x1, a.eval x2], rfl, p0, p1, p2, trivial⟩, ?_⟩
  have := run_build w 35 #[(0, a.eval x0), (1, a.eval x1), (2, a.eval x2)] _ (by simpa using hb)
  simp [execOp, this]
theorem built59 (parts : List (Nat × Value)) : Tryz.prog.built 59 parts = Instr.fill (fun i => (#[(0, 1), (1, 1)] : Array (Nat × Nat))[i]?) #[((.map none)), ((.map none))] parts := by kernel_rfl
theorem o_build59_0_1 {n : Nat} {c : Cx} {l : Fr} {H : List Ent} {d : Option Nat} {ty : TypeId} {pos : String} {af : Array Edge} {g : Option (Nat × Bool)} {x0 : Operand} {r0 : Rp} (h0 : ev l x0 = some r0) (u0 : r0.one = true) {x1 : Operand} {r1 : Rp} (h1 : ev l x1 = some r1) (u1 : r1.one = true) : ORun Tryz.prog n c l H { dst := d, op := .build 59 #[(0, x0), (1, x1)], type := ty, pos := pos, after := af, guard := g } (rAgg [r0, r1]) := fun a w Z ha _ => by
  have p0 := ha.ev h0
  have c0 := cells_one (r0.hone u0 Z _ p0)
  have p1 := ha.ev h1
  have c1 := cells_one (r1.hone u1 Z _ p1)
  have hb : Tryz.prog.built 59 [(0, a.eval x0), (1, a.eval x1)] = some #[a.eval x0, a.eval x1] := by
    rw [built59]
    generalize a.eval x0 = v0 at *
    generalize a.eval x1 = v1 at *
    simp [Instr.fill, c0, c1]
  refine ⟨.agg #[a.eval x0, a.eval x1], ⟨[a.eval x0, a.eval x1], rfl, p0, p1, trivial⟩, ?_⟩
  have := run_build w 59 #[(0, a.eval x0), (1, a.eval x1)] _ (by simpa using hb)
  simp [execOp, this]
theorem cloneN_w (ys : (List TApiCell)) (r : (List TApiCell)) (h : cloneN ys = some r) : Fn Tryz.prog GE 59 [rSl 4 (List.map eTApiCell ys)] [] (fun R H => R = rSl 4 (List.map eTApiCell r) ∧ H = []) := by
 refine enter (n := 8) Tryz.func59 rfl Tryz.ntmps59 rfl (fun w Z => ?_)
 refine wc_as (l' := [(0, rSl 4 (List.map eTApiCell ys))]) (H' := []) rfl rfl ?_
 unfold cloneN at h
 refine wc_sr ?_
 refine wv (r := rv (.slice none 0 0)) (o_assign rfl) ?_
 refine wl_x ?_
 refine wc_seq ?_
 refine wc_sr ?_
 refine wm rfl ?_
 refine wv (o_slnil_z Tryz.underlying33 rfl) ?_
 refine wl_x ?_
 refine wc_condx rfl (fun c1 => ?_) (fun c1 => ?_)
 ·have e2 : ys = [] := List.map_eq_nil_iff.1 (c1 rfl)
  have h3 : some ([] : List TApiCell) = some r := by rw [e2] at h; exact (chk_e h).2
  refine wc_sr ?_
  refine wv (r := rv (.slice none 0 0)) (o_assign rfl) ?_
  refine wl_x ?_
  refine wc_ret ?_
  refine wk_then_ret ?_
  refine WK.up (d := 2) (r := rSl 4 (List.map eTApiCell ([] : List TApiCell))) rfl (Up.le (Rle.nil _)) ?_
  obtain rfl := some_e h3
  exact wk_ret (r_1 Tryz.results59 (rv_t rfl)) sN ⟨rfl, rfl⟩
 ·refine wc_skip ?_
  refine wk_x ?_
  refine wc_sr ?_
  refine w_buildSlice (ys := ([] : List TApiCell)) (enc := eTApiCell) (css := []) (xs := []) Tryz.underlying33 Tryz.sizeOf78 Tryz.zeroValue78 rfl rfl rfl trivial rfl eTApiCell_len rfl rfl rfl (fun b4 => ?_)
  refine wm rfl ?_
  obtain ⟨g6, h7⟩ := chk_e h
  obtain ⟨inf, hinf⟩ := info78
  refine w_append (xs := ([] : List TApiCell)) (ys := ys) (enc := eTApiCell) (i := 0) Tryz.underlying33 hinf.1 hinf.2.1 hinf.2.2.1 hinf.2.2.2 rfl rfl rfl rfl rfl (Src.z rfl rfl) eTApiCell_len eTApiCell_one g6 rfl (fun v5 => ?_)
  refine wa rfl ?_
  refine wl_x ?_
  refine wc_ret ?_
  refine WK.freeze (i := 0) rfl ?_
  refine WK.up (d := 2) (r := rSl 4 (List.map eTApiCell (([] : List TApiCell) ++ ys))) rfl (Up.fact (i := 0) rfl) ?_
  obtain rfl := some_e h7
  exact wk_ret (r_1 Tryz.results59 (rv_t rfl)) (sS sN) ⟨rfl, rfl⟩

theorem i5Small_w (c : Int) (r : Bool) (h : i5Small c = some r) : Fn Tryz.prog GE 107 [rI .u8 c] [] (fun R H => R = rB r ∧ H = []) := by
 refine enter (n := 9) Tryz.func107 rfl Tryz.ntmps107 rfl (fun w Z => ?_)
 refine wc_as (l' := [(0, rI .u8 c)]) (H' := []) rfl rfl ?_
 unfold i5Small at h
 refine wc_sr ?_
 refine wv (r := rB false) (o_assign rfl) ?_
 refine wl_x ?_
 refine wc_seq_mid [(2, rB ((decide (97 ≤ c)) && (decide (c ≤ 122))))] [] ?_ ?_
 ·refine wc_region ?_
  refine wm rfl ?_
  refine wv (o_ge rfl rfl) ?_
  refine wm rfl ?_
  refine bsplit (decide (97 ≤ c)) (fun c1 => ?_) (fun c1 => ?_)
  ·refine wo c1 ?_
   refine wm rfl ?_
   refine wo c1 ?_
   refine wv (o_le rfl rfl) ?_
   refine wpt rfl c1 rfl ?_
   refine wa rfl ?_
   refine wl_nil ?_
   exact wtc c1
  ·refine wf c1 ?_
   refine wf c1 ?_
   refine wv (r := rB false) (o_pick_f (b := decide (97 ≤ c)) rfl c1 rfl) ?_
   refine wa rfl ?_
   refine wl_nil ?_
   exact wtc c1
 refine wc_ret ?_
 obtain rfl := some_e h
 exact wk_ret (r_1 Tryz.results107 (rv_t rfl)) sN ⟨rfl, rfl⟩

theorem i5Digit_w (c : Int) (r : Bool) (h : i5Digit c = some r) : Fn Tryz.prog GE 108 [rI .u8 c] [] (fun R H => R = rB r ∧ H = []) := by
 refine enter (n := 9) Tryz.func108 rfl Tryz.ntmps108 rfl (fun w Z => ?_)
 refine wc_as (l' := [(0, rI .u8 c)]) (H' := []) rfl rfl ?_
 unfold i5Digit at h
 refine wc_sr ?_
 refine wv (r := rB false) (o_assign rfl) ?_
 refine wl_x ?_
 refine wc_seq_mid [(2, rB ((decide (48 ≤ c)) && (decide (c ≤ 57))))] [] ?_ ?_
 ·refine wc_region ?_
  refine wm rfl ?_
  refine wv (o_ge rfl rfl) ?_
  refine wm rfl ?_
  refine bsplit (decide (48 ≤ c)) (fun c1 => ?_) (fun c1 => ?_)
  ·refine wo c1 ?_
   refine wm rfl ?_
   refine wo c1 ?_
   refine wv (o_le rfl rfl) ?_
   refine wpt rfl c1 rfl ?_
   refine wa rfl ?_
   refine wl_nil ?_
   exact wtc c1
  ·refine wf c1 ?_
   refine wf c1 ?_
   refine wv (r := rB false) (o_pick_f (b := decide (48 ≤ c)) rfl c1 rfl) ?_
   refine wa rfl ?_
   refine wl_nil ?_
   exact wtc c1
 refine wc_ret ?_
 obtain rfl := some_e h
 exact wk_ret (r_1 Tryz.results108 (rv_t rfl)) sN ⟨rfl, rfl⟩

theorem i5Part_w (c : Int) (r : Bool) (h : i5Part c = some r) : Fn Tryz.prog GE 81 [rI .u8 c] [] (fun R H => R = rB r ∧ H = []) := by
 refine enter (n := 37) Tryz.func81 rfl Tryz.ntmps81 rfl (fun w Z => ?_)
 refine wc_as (l' := [(0, rI .u8 c)]) (H' := []) rfl rfl ?_
 unfold i5Part at h
 refine wc_sr ?_
 refine wv (r := rB false) (o_assign rfl) ?_
 refine wl_x ?_
 refine wc_seq_cut (S := (Bool) × (Unit)) (fun σ => i5Part_j1 σ.1 = some r) (fun σ => [(2, rB σ.1)]) (fun σ => []) ?_ ?_
 ·refine wc_region ?_
  refine wm rfl ?_
  obtain ⟨r50, e52, h51⟩ := obn_e h
  refine wc0 Tryz.call107 (i5Small_w c r50 e52) rfl ?_
  refine wm rfl ?_
  refine bsplit (r50) (fun c53 => ?_) (fun c53 => ?_)
  ·have h54 := cnd_t c53 h51
   refine wf c53 ?_
   refine wf c53 ?_
   refine wf c53 ?_
   refine wu ?_
   refine wu ?_
   refine wf c53 ?_
   refine wv (r := rB true) (o_pick_t (b := r50) rfl c53 rfl) ?_
   refine wm rfl ?_
   refine wl_off (b := true) rfl rfl rfl rfl ?_
   refine wl_off (b := true) rfl rfl rfl rfl ?_
   refine wv (r := rB true) (o_pick_t (b := true) rfl rfl rfl) ?_
   refine wm rfl ?_
   refine wl_off (b := true) rfl rfl rfl rfl ?_
   refine wl_off (b := true) rfl rfl rfl rfl ?_
   refine wv (r := rB true) (o_pick_t (b := true) rfl rfl rfl) ?_
   refine wm rfl ?_
   refine wl_off (b := true) rfl rfl rfl rfl ?_
   refine wl_off (b := true) rfl rfl rfl rfl ?_
   refine wv (r := rB true) (o_pick_t (b := true) rfl rfl rfl) ?_
   refine wm rfl ?_
   refine wl_off (b := true) rfl rfl rfl rfl ?_
   refine wl_off (b := true) rfl rfl rfl rfl ?_
   refine wv (r := rB true) (o_pick_t (b := true) rfl rfl rfl) ?_
   refine wm rfl ?_
   refine wl_off (b := true) rfl rfl rfl rfl ?_
   refine wl_off (b := true) rfl rfl rfl rfl ?_
   refine wv (r := rB true) (o_pick_t (b := true) rfl rfl rfl) ?_
   refine wm rfl ?_
   refine wl_off (b := true) rfl rfl rfl rfl ?_
   refine wl_off (b := true) rfl rfl rfl rfl ?_
   refine wv (r := rB true) (o_pick_t (b := true) rfl rfl rfl) ?_
   refine wa rfl ?_
   refine wl_nil ?_
   exact wk_then (wk_some (true, ()) h54 (Sub.c rfl Sub.nil) sN)
  ·have h55 := cnd_f c53 h51
   refine wo c53 ?_
   refine wm rfl ?_
   refine wo c53 ?_
   refine wv (o_ge rfl rfl) ?_
   refine wo c53 ?_
   refine wm rfl ?_
   refine bsplit (decide (65 ≤ c)) (fun c56 => ?_) (fun c56 => ?_)
   ·have h57 := cnd_t c56 h55
    refine wo c56 ?_
    refine wm rfl ?_
    refine wo c56 ?_
    refine wv (o_le rfl rfl) ?_
    refine wo c53 ?_
    refine wpt rfl c56 rfl ?_
    refine wpf rfl c53 rfl ?_
    refine wm rfl ?_
    refine bsplit (decide (c ≤ 90)) (fun c58 => ?_) (fun c58 => ?_)
    ·have h59 := cnd_t c58 h57
     refine wf c58 ?_
     refine wf c58 ?_
     refine wv (r := rB true) (o_pick_t (b := decide (c ≤ 90)) rfl c58 rfl) ?_
     refine wm rfl ?_
     refine wl_off (b := true) rfl rfl rfl rfl ?_
     refine wl_off (b := true) rfl rfl rfl rfl ?_
     refine wv (r := rB true) (o_pick_t (b := true) rfl rfl rfl) ?_
     refine wm rfl ?_
     refine wl_off (b := true) rfl rfl rfl rfl ?_
     refine wl_off (b := true) rfl rfl rfl rfl ?_
     refine wv (r := rB true) (o_pick_t (b := true) rfl rfl rfl) ?_
     refine wm rfl ?_
     refine wl_off (b := true) rfl rfl rfl rfl ?_
     refine wl_off (b := true) rfl rfl rfl rfl ?_
     refine wv (r := rB true) (o_pick_t (b := true) rfl rfl rfl) ?_
     refine wm rfl ?_
     refine wl_off (b := true) rfl rfl rfl rfl ?_
     refine wl_off (b := true) rfl rfl rfl rfl ?_
     refine wv (r := rB true) (o_pick_t (b := true) rfl rfl rfl) ?_
     refine wm rfl ?_
     refine wl_off (b := true) rfl rfl rfl rfl ?_
     refine wl_off (b := true) rfl rfl rfl rfl ?_
     refine wv (r := rB true) (o_pick_t (b := true) rfl rfl rfl) ?_
     refine wa rfl ?_
     refine wl_nil ?_
     exact wk_then (wk_some (true, ()) h59 (Sub.c rfl Sub.nil) sN)
    ·have h60 := cnd_f c58 h57
     refine wo c58 ?_
     refine wm rfl ?_
     refine wo c58 ?_
     obtain ⟨r61, e63, h62⟩ := obn_e h60
     refine wc0 Tryz.call108 (i5Digit_w c r61 e63) rfl ?_
     refine wpf rfl c58 rfl ?_
     refine wm rfl ?_
     refine bsplit (r61) (fun c64 => ?_) (fun c64 => ?_)
     ·have h65 := cnd_t c64 h62
      refine wf c64 ?_
      refine wf c64 ?_
      refine wv (r := rB true) (o_pick_t (b := r61) rfl c64 rfl) ?_
      refine wm rfl ?_
      refine wl_off (b := true) rfl rfl rfl rfl ?_
      refine wl_off (b := true) rfl rfl rfl rfl ?_
      refine wv (r := rB true) (o_pick_t (b := true) rfl rfl rfl) ?_
      refine wm rfl ?_
      refine wl_off (b := true) rfl rfl rfl rfl ?_
      refine wl_off (b := true) rfl rfl rfl rfl ?_
      refine wv (r := rB true) (o_pick_t (b := true) rfl rfl rfl) ?_
      refine wm rfl ?_
      refine wl_off (b := true) rfl rfl rfl rfl ?_
      refine wl_off (b := true) rfl rfl rfl rfl ?_
      refine wv (r := rB true) (o_pick_t (b := true) rfl rfl rfl) ?_
      refine wm rfl ?_
      refine wl_off (b := true) rfl rfl rfl rfl ?_
      refine wl_off (b := true) rfl rfl rfl rfl ?_
      refine wv (r := rB true) (o_pick_t (b := true) rfl rfl rfl) ?_
      refine wa rfl ?_
      refine wl_nil ?_
      exact wk_then (wk_some (true, ()) h65 (Sub.c rfl Sub.nil) sN)
     ·have h66 := cnd_f c64 h62
      refine wo c64 ?_
      refine wm rfl ?_
      refine wo c64 ?_
      refine wv (o_eq rfl rfl) ?_
      refine wpf rfl c64 rfl ?_
      refine wm rfl ?_
      refine bsplit (decide (c = 45)) (fun c67 => ?_) (fun c67 => ?_)
      ·have h68 := cnd_t c67 h66
       refine wf c67 ?_
       refine wf c67 ?_
       refine wv (r := rB true) (o_pick_t (b := decide (c = 45)) rfl c67 rfl) ?_
       refine wm rfl ?_
       refine wl_off (b := true) rfl rfl rfl rfl ?_
       refine wl_off (b := true) rfl rfl rfl rfl ?_
       refine wv (r := rB true) (o_pick_t (b := true) rfl rfl rfl) ?_
       refine wm rfl ?_
       refine wl_off (b := true) rfl rfl rfl rfl ?_
       refine wl_off (b := true) rfl rfl rfl rfl ?_
       refine wv (r := rB true) (o_pick_t (b := true) rfl rfl rfl) ?_
       refine wm rfl ?_
       refine wl_off (b := true) rfl rfl rfl rfl ?_
       refine wl_off (b := true) rfl rfl rfl rfl ?_
       refine wv (r := rB true) (o_pick_t (b := true) rfl rfl rfl) ?_
       refine wa rfl ?_
       refine wl_nil ?_
       exact wk_then (wk_some (true, ()) h68 (Sub.c rfl Sub.nil) sN)
      ·have h69 := cnd_f c67 h66
       refine wo c67 ?_
       refine wm rfl ?_
       refine wo c67 ?_
       refine wv (o_eq rfl rfl) ?_
       refine wpf rfl c67 rfl ?_
       refine wm rfl ?_
       refine bsplit (decide (c = 95)) (fun c70 => ?_) (fun c70 => ?_)
       ·have h71 := cnd_t c70 h69
        refine wf c70 ?_
        refine wf c70 ?_
        refine wv (r := rB true) (o_pick_t (b := decide (c = 95)) rfl c70 rfl) ?_
        refine wm rfl ?_
        refine wl_off (b := true) rfl rfl rfl rfl ?_
        refine wl_off (b := true) rfl rfl rfl rfl ?_
        refine wv (r := rB true) (o_pick_t (b := true) rfl rfl rfl) ?_
        refine wm rfl ?_
        refine wl_off (b := true) rfl rfl rfl rfl ?_
        refine wl_off (b := true) rfl rfl rfl rfl ?_
        refine wv (r := rB true) (o_pick_t (b := true) rfl rfl rfl) ?_
        refine wa rfl ?_
        refine wl_nil ?_
        exact wk_then (wk_some (true, ()) h71 (Sub.c rfl Sub.nil) sN)
       ·have h72 := cnd_f c70 h69
        refine wo c70 ?_
        refine wm rfl ?_
        refine wo c70 ?_
        refine wv (o_eq rfl rfl) ?_
        refine wpf rfl c70 rfl ?_
        refine wm rfl ?_
        refine bsplit (decide (c = 46)) (fun c73 => ?_) (fun c73 => ?_)
        ·have h74 := cnd_t c73 h72
         refine wf c73 ?_
         refine wf c73 ?_
         refine wv (r := rB true) (o_pick_t (b := decide (c = 46)) rfl c73 rfl) ?_
         refine wm rfl ?_
         refine wl_off (b := true) rfl rfl rfl rfl ?_
         refine wl_off (b := true) rfl rfl rfl rfl ?_
         refine wv (r := rB true) (o_pick_t (b := true) rfl rfl rfl) ?_
         refine wa rfl ?_
         refine wl_nil ?_
         exact wk_then (wk_some (true, ()) h74 (Sub.c rfl Sub.nil) sN)
        ·have h75 := cnd_f c73 h72
         refine wo c73 ?_
         refine wm rfl ?_
         refine wo c73 ?_
         refine wv (o_eq rfl rfl) ?_
         refine wpf rfl c73 rfl ?_
         refine wm rfl ?_
         refine bsplit (decide (c = 58)) (fun c76 => ?_) (fun c76 => ?_)
         ·have h77 := cnd_t c76 h75
          refine wf c76 ?_
          refine wf c76 ?_
          refine wv (r := rB true) (o_pick_t (b := decide (c = 58)) rfl c76 rfl) ?_
          refine wa rfl ?_
          refine wl_nil ?_
          exact wk_then (wk_some (true, ()) h77 (Sub.c rfl Sub.nil) sN)
         ·have h78 := cnd_f c76 h75
          refine wo c76 ?_
          refine wm rfl ?_
          refine wo c76 ?_
          refine wv (o_eq rfl rfl) ?_
          refine wpf rfl c76 rfl ?_
          refine wa rfl ?_
          refine wl_nil ?_
          exact wk_then (wk_some (decide (c = 47), ()) h78 (Sub.c rfl Sub.nil) sN)
   ·have h79 := cnd_f c56 h55
    refine wf c56 ?_
    refine wf c56 ?_
    refine wo c53 ?_
    refine wv (r := rB false) (o_pick_f (b := decide (65 ≤ c)) rfl c56 rfl) ?_
    refine wpf rfl c53 rfl ?_
    refine wm rfl ?_
    refine wl_on (b := false) rfl rfl rfl ?_
    refine wm rfl ?_
    refine wl_on (b := false) rfl rfl rfl ?_
    obtain ⟨r80, e82, h81⟩ := obn_e h79
    refine wc0 Tryz.call108 (i5Digit_w c r80 e82) rfl ?_
    refine wv (r := rB r80) (o_pick_f (b := false) rfl rfl rfl) ?_
    refine wm rfl ?_
    refine bsplit (r80) (fun c83 => ?_) (fun c83 => ?_)
    ·have h84 := cnd_t c83 h81
     refine wf c83 ?_
     refine wf c83 ?_
     refine wv (r := rB true) (o_pick_t (b := r80) rfl c83 rfl) ?_
     refine wm rfl ?_
     refine wl_off (b := true) rfl rfl rfl rfl ?_
     refine wl_off (b := true) rfl rfl rfl rfl ?_
     refine wv (r := rB true) (o_pick_t (b := true) rfl rfl rfl) ?_
     refine wm rfl ?_
     refine wl_off (b := true) rfl rfl rfl rfl ?_
     refine wl_off (b := true) rfl rfl rfl rfl ?_
     refine wv (r := rB true) (o_pick_t (b := true) rfl rfl rfl) ?_
     refine wm rfl ?_
     refine wl_off (b := true) rfl rfl rfl rfl ?_
     refine wl_off (b := true) rfl rfl rfl rfl ?_
     refine wv (r := rB true) (o_pick_t (b := true) rfl rfl rfl) ?_
     refine wm rfl ?_
     refine wl_off (b := true) rfl rfl rfl rfl ?_
     refine wl_off (b := true) rfl rfl rfl rfl ?_
     refine wv (r := rB true) (o_pick_t (b := true) rfl rfl rfl) ?_
     refine wa rfl ?_
     refine wl_nil ?_
     exact wk_then (wk_some (true, ()) h84 (Sub.c rfl Sub.nil) sN)
    ·have h85 := cnd_f c83 h81
     refine wo c83 ?_
     refine wm rfl ?_
     refine wo c83 ?_
     refine wv (o_eq rfl rfl) ?_
     refine wpf rfl c83 rfl ?_
     refine wm rfl ?_
     refine bsplit (decide (c = 45)) (fun c86 => ?_) (fun c86 => ?_)
     ·have h87 := cnd_t c86 h85
      refine wf c86 ?_
      refine wf c86 ?_
      refine wv (r := rB true) (o_pick_t (b := decide (c = 45)) rfl c86 rfl) ?_
      refine wm rfl ?_
      refine wl_off (b := true) rfl rfl rfl rfl ?_
      refine wl_off (b := true) rfl rfl rfl rfl ?_
      refine wv (r := rB true) (o_pick_t (b := true) rfl rfl rfl) ?_
      refine wm rfl ?_
      refine wl_off (b := true) rfl rfl rfl rfl ?_
      refine wl_off (b := true) rfl rfl rfl rfl ?_
      refine wv (r := rB true) (o_pick_t (b := true) rfl rfl rfl) ?_
      refine wm rfl ?_
      refine wl_off (b := true) rfl rfl rfl rfl ?_
      refine wl_off (b := true) rfl rfl rfl rfl ?_
      refine wv (r := rB true) (o_pick_t (b := true) rfl rfl rfl) ?_
      refine wa rfl ?_
      refine wl_nil ?_
      exact wk_then (wk_some (true, ()) h87 (Sub.c rfl Sub.nil) sN)
     ·have h88 := cnd_f c86 h85
      refine wo c86 ?_
      refine wm rfl ?_
      refine wo c86 ?_
      refine wv (o_eq rfl rfl) ?_
      refine wpf rfl c86 rfl ?_
      refine wm rfl ?_
      refine bsplit (decide (c = 95)) (fun c89 => ?_) (fun c89 => ?_)
      ·have h90 := cnd_t c89 h88
       refine wf c89 ?_
       refine wf c89 ?_
       refine wv (r := rB true) (o_pick_t (b := decide (c = 95)) rfl c89 rfl) ?_
       refine wm rfl ?_
       refine wl_off (b := true) rfl rfl rfl rfl ?_
       refine wl_off (b := true) rfl rfl rfl rfl ?_
       refine wv (r := rB true) (o_pick_t (b := true) rfl rfl rfl) ?_
       refine wm rfl ?_
       refine wl_off (b := true) rfl rfl rfl rfl ?_
       refine wl_off (b := true) rfl rfl rfl rfl ?_
       refine wv (r := rB true) (o_pick_t (b := true) rfl rfl rfl) ?_
       refine wa rfl ?_
       refine wl_nil ?_
       exact wk_then (wk_some (true, ()) h90 (Sub.c rfl Sub.nil) sN)
      ·have h91 := cnd_f c89 h88
       refine wo c89 ?_
       refine wm rfl ?_
       refine wo c89 ?_
       refine wv (o_eq rfl rfl) ?_
       refine wpf rfl c89 rfl ?_
       refine wm rfl ?_
       refine bsplit (decide (c = 46)) (fun c92 => ?_) (fun c92 => ?_)
       ·have h93 := cnd_t c92 h91
        refine wf c92 ?_
        refine wf c92 ?_
        refine wv (r := rB true) (o_pick_t (b := decide (c = 46)) rfl c92 rfl) ?_
        refine wm rfl ?_
        refine wl_off (b := true) rfl rfl rfl rfl ?_
        refine wl_off (b := true) rfl rfl rfl rfl ?_
        refine wv (r := rB true) (o_pick_t (b := true) rfl rfl rfl) ?_
        refine wa rfl ?_
        refine wl_nil ?_
        exact wk_then (wk_some (true, ()) h93 (Sub.c rfl Sub.nil) sN)
       ·have h94 := cnd_f c92 h91
        refine wo c92 ?_
        refine wm rfl ?_
        refine wo c92 ?_
        refine wv (o_eq rfl rfl) ?_
        refine wpf rfl c92 rfl ?_
        refine wm rfl ?_
        refine bsplit (decide (c = 58)) (fun c95 => ?_) (fun c95 => ?_)
        ·have h96 := cnd_t c95 h94
         refine wf c95 ?_
         refine wf c95 ?_
         refine wv (r := rB true) (o_pick_t (b := decide (c = 58)) rfl c95 rfl) ?_
         refine wa rfl ?_
         refine wl_nil ?_
         exact wk_then (wk_some (true, ()) h96 (Sub.c rfl Sub.nil) sN)
        ·have h97 := cnd_f c95 h94
         refine wo c95 ?_
         refine wm rfl ?_
         refine wo c95 ?_
         refine wv (o_eq rfl rfl) ?_
         refine wpf rfl c95 rfl ?_
         refine wa rfl ?_
         refine wl_nil ?_
         exact wk_then (wk_some (decide (c = 47), ()) h97 (Sub.c rfl Sub.nil) sN)
 ·rintro ⟨x49, ⟨⟩⟩ h98
  refine wc_as (l' := [(2, rB x49)]) (H' := []) rfl rfl ?_
  replace h98 : i5Part_j1 x49 = some r := h98
  unfold i5Part_j1 at h98
  refine wc_ret ?_
  obtain rfl := some_e h98
  exact wk_ret (r_1 Tryz.results81 (rv_t rfl)) sN ⟨rfl, rfl⟩

theorem i5ID_w (F : Nat) (s : Str) (r : Bool) (h : i5ID F s = some r) : Fn Tryz.prog GE 56 [rS s] [] (fun R H => R = rB r ∧ H = []) := by
 refine enter (n := 23) Tryz.func56 rfl Tryz.ntmps56 rfl (fun w Z => ?_)
 refine wc_as (l' := [(0, rS s)]) (H' := []) rfl rfl ?_
 unfold i5ID at h
 refine wc_sr ?_
 refine wv (r := rB false) (o_assign rfl) ?_
 refine wl_x ?_
 refine wc_seq ?_
 refine wc_seq_mid [(0, rS s), (11, rB ((decide ((s.length : Int) < 1)) || (decide (64 < (s.length : Int)))))] [] ?_ ?_
 ·refine wc_region ?_
  refine wm rfl ?_
  refine wv (o_len_s Tryz.underlying9 rfl) ?_
  refine wv (o_lt rfl rfl) ?_
  refine wm rfl ?_
  refine bsplit (decide ((s.length : Int) < 1)) (fun c1 => ?_) (fun c1 => ?_)
  ·refine wf c1 ?_
   refine wf c1 ?_
   refine wf c1 ?_
   refine wv (r := rB true) (o_pick_t (b := decide ((s.length : Int) < 1)) rfl c1 rfl) ?_
   refine wl_nil ?_
   exact wtc c1
  ·refine wo c1 ?_
   refine wm rfl ?_
   refine wo c1 ?_
   refine wv (o_len_s Tryz.underlying9 rfl) ?_
   refine wo c1 ?_
   refine wv (o_gt rfl rfl) ?_
   refine wpf rfl c1 rfl ?_
   refine wl_nil ?_
   exact wtc c1
 refine wc_cond (b := ((decide ((s.length : Int) < 1)) || (decide (64 < (s.length : Int))))) rfl (fun c2 => ?_) (fun c2 => ?_)
 ·have h3 := cnd_t c2 h
  refine wc_sr ?_
  refine wv (r := rB false) (o_assign rfl) ?_
  refine wl_x ?_
  refine wc_ret ?_
  refine wk_then_ret ?_
  obtain rfl := some_e h3
  exact wk_ret (r_1 Tryz.results56 (rv_t rfl)) sN ⟨rfl, rfl⟩
 ·have h4 := cnd_f c2 h
  refine wc_skip ?_
  refine wk_x ?_
  refine wc_seq ?_
  refine wc_sr ?_
  refine wv (r := rI .i64 0) (o_assign rfl) ?_
  refine wl_x ?_
  refine wc_block ?_
  obtain ⟨o44, eo45, hK46⟩ := obn_e h4
  refine wc_loop2 (S := Nat × (Int) × (Unit)) (V := (Unit) × (Unit)) 0 (fun σ => lop (fun σ => i5ID_b1 s σ) σ.1 σ.2.1 = some o44) (fun σ => [(0, rS s), (3, rI .i64 σ.2.1)]) (fun σ => []) (fun σ => σ.1) (F, 0, ()) eo45 (Sub.c rfl (Sub.c rfl Sub.nil)) sN (fun σ => i5ID_k1  = some r) (fun σ => []) (fun σ => []) ?_ ?_
  ·rintro ⟨n52, x30, ⟨⟩⟩ hi50
   refine wc_as (l' := [(0, rS s), (3, rI .i64 x30)]) (H' := []) rfl rfl ?_
   obtain ⟨m49, rfl, t47, h51, ht48⟩ := lop_e hi50
   replace h51 : i5ID_b1 s x30 = some t47 := h51
   unfold i5ID_b1 at h51
   refine wc_seq ?_
   refine wc_sr ?_
   refine wm rfl ?_
   refine wm rfl ?_
   refine wv (o_len_s Tryz.underlying9 rfl) ?_
   refine wv (o_lt rfl rfl) ?_
   refine wl_x ?_
   refine wc_cond (b := decide (x30 < (s.length : Int))) rfl (fun c53 => ?_) (fun c53 => ?_)
   ·have h54 := cnd_t c53 h51
    refine wc_skip ?_
    refine wk_x ?_
    refine wc_seq ?_
    refine wc_block ?_
    refine wc_sr ?_
    refine wm rfl ?_
    refine wm rfl ?_
    obtain ⟨g55, h56⟩ := chk_e h54
    refine wv (o_index_b Tryz.underlying9 rfl rfl g55) ?_
    obtain ⟨r57, e59, h58⟩ := obn_e h56
    refine wc0 Tryz.call81 (i5Part_w (bat s x30) r57 e59) rfl ?_
    refine wv (o_not rfl) ?_
    refine wl_x ?_
    refine wc_cond (b := !r57) rfl (fun c60 => ?_) (fun c60 => ?_)
    ·have h61 := cnd_t c60 h58
     refine wc_sr ?_
     refine wv (r := rB false) (o_assign rfl) ?_
     refine wl_x ?_
     refine wc_ret ?_
     refine wk_in_ret ?_
     refine wk_then_ret ?_
     refine wk_then_ret ?_
     refine wk_cut_ret ?_
     have h62 := stp_ret h61 ht48 hK46
     refine wk_in_ret ?_
     refine wk_then_ret ?_
     obtain rfl := some_e h62
     exact wk_ret (r_1 Tryz.results56 (rv_t rfl)) sN ⟨rfl, rfl⟩
    ·have h63 := cnd_f c60 h58
     refine wc_skip ?_
     refine wk_in_norm ?_
     refine wk_x ?_
     refine wc_region ?_
     refine wm rfl ?_
     obtain ⟨g64, h65⟩ := chk_e h63
     refine wv (o_add rfl rfl g64) ?_
     refine wa rfl ?_
     refine wl_nil ?_
     have h66 := stp_next h65 ht48
     exact wk_then (wk_some (m49, x30 + 1, ()) ⟨h66, Nat.lt_succ_self _⟩ (Sub.c rfl (Sub.c rfl Sub.nil)) sN)
   ·have h67 := cnd_f c53 h51
    refine wc_exit ?_
    refine wk_then_exit ?_
    have h68 := stp_go h67 ht48 hK46
    exact wk_then_exit (wk_cut_hit (wk_some ((), ()) h68 Sub.nil sN))
  ·rintro ⟨⟨⟩, ⟨⟩⟩ h69
   refine wk_as (l' := []) (H' := []) rfl rfl ?_
   replace h69 : i5ID_k1  = some r := h69
   unfold i5ID_k1 at h69
   refine wk_in_hit ?_
   refine wk_x ?_
   refine wc_sr ?_
   refine wv (r := rB true) (o_assign rfl) ?_
   refine wl_x ?_
   refine wc_ret ?_
   obtain rfl := some_e h69
   exact wk_ret (r_1 Tryz.results56 (rv_t rfl)) sN ⟨rfl, rfl⟩

theorem kCheck_w (F : Nat) (c : TApiChange) (r : Int) (h : kCheck F c = some r) : Fn Tryz.prog GE 55 [rAgg (eTApiChange c)] [] (fun R H => R = rI .i64 r ∧ H = []) := by
 refine enter (n := 32) Tryz.func55 rfl Tryz.ntmps55 rfl (fun w Z => ?_)
 refine wc_as (l' := [(0, rAgg (eTApiChange c))]) (H' := []) rfl rfl ?_
 unfold kCheck at h
 refine wc_sr ?_
 refine w_box_agg rfl rfl (fun b1 => ?_)
 refine wv (r := rI .i64 0) (o_assign rfl) ?_
 refine wl_x ?_
 refine wc_seq ?_
 refine wc_block ?_
 refine wc_sr ?_
 refine wv (o_fieldAddr Tryz.underlying50 rfl Tryz.sizeOf9 rfl rfl) ?_
 refine wv (o_load (i := 0) Tryz.isAgg9 rfl rfl rfl) ?_
 refine w_call0 (rs := [rS c.fKey]) (r := rB (idS c.fKey)) Tryz.call79 rfl (id_q c.fKey) rfl rfl ?_
 refine wv (o_not rfl) ?_
 refine wa rfl ?_
 refine wl_x ?_
 refine wc_cond (b := !(idS c.fKey)) rfl (fun c2 => ?_) (fun c2 => ?_)
 ·have h3 := cnd_t c2 h
  refine wc_sr ?_
  refine wv (r := rI .i64 4) (o_assign rfl) ?_
  refine wl_x ?_
  refine wc_ret ?_
  refine wk_in_ret ?_
  refine wk_then_ret ?_
  obtain rfl := some_e h3
  exact wk_ret (r_1 Tryz.results55 (rv_t rfl)) (sS sN) ⟨rfl, rfl⟩
 ·have h4 := cnd_f c2 h
  refine wc_seq_mid [(1, rv (.pointer (some ⟨b1, 0, none⟩))), (8, rB ((decide (c.fIfVersion < (-1))) || (decide (1000000000000 < c.fIfVersion))))] [.blk b1 (eTApiChange c) 50] ?_ ?_
  ·refine wc_region ?_
   refine wv (o_fieldAddr Tryz.underlying50 rfl Tryz.sizeOf3 rfl rfl) ?_
   refine wv (o_load (i := 0) Tryz.isAgg3 rfl rfl rfl) ?_
   refine wv (o_lt rfl rfl) ?_
   refine wm rfl ?_
   refine bsplit (decide (c.fIfVersion < (-1))) (fun c5 => ?_) (fun c5 => ?_)
   ·refine wf c5 ?_
    refine wf c5 ?_
    refine wf c5 ?_
    refine wv (r := rB true) (o_pick_t (b := decide (c.fIfVersion < (-1))) rfl c5 rfl) ?_
    refine wa rfl ?_
    refine wl_nil ?_
    exact wtc c5
   ·refine wo c5 ?_
    refine wv (o_fieldAddr Tryz.underlying50 rfl Tryz.sizeOf3 rfl rfl) ?_
    refine wo c5 ?_
    refine wv (o_load (i := 0) Tryz.isAgg3 rfl rfl rfl) ?_
    refine wo c5 ?_
    refine wv (o_gt rfl rfl) ?_
    refine wpf rfl c5 rfl ?_
    refine wa rfl ?_
    refine wl_nil ?_
    exact wtc c5
  refine wc_cond (b := ((decide (c.fIfVersion < (-1))) || (decide (1000000000000 < c.fIfVersion)))) rfl (fun c6 => ?_) (fun c6 => ?_)
  ·have h7 := cnd_t c6 h4
   refine wc_sr ?_
   refine wv (r := rI .i64 2) (o_assign rfl) ?_
   refine wl_x ?_
   refine wc_ret ?_
   refine wk_in_ret ?_
   refine wk_then_ret ?_
   obtain rfl := some_e h7
   exact wk_ret (r_1 Tryz.results55 (rv_t rfl)) (sS sN) ⟨rfl, rfl⟩
  ·have h8 := cnd_f c6 h4
   refine wc_seq_mid [(1, rv (.pointer (some ⟨b1, 0, none⟩))), (17, rB (c.fDelete && (decide (0 < (c.fValue.length : Int)))))] [.blk b1 (eTApiChange c) 50] ?_ ?_
   ·refine wc_region ?_
    refine wv (o_fieldAddr Tryz.underlying50 rfl Tryz.sizeOf4 rfl rfl) ?_
    refine wv (o_load (i := 0) Tryz.isAgg4 rfl rfl rfl) ?_
    refine wm rfl ?_
    refine bsplit (c.fDelete) (fun c9 => ?_) (fun c9 => ?_)
    ·refine wo c9 ?_
     refine wv (o_fieldAddr Tryz.underlying50 rfl Tryz.sizeOf33 rfl rfl) ?_
     refine wo c9 ?_
     refine wv (o_load (i := 0) Tryz.isAgg33 rfl rfl rfl) ?_
     refine wo c9 ?_
     refine wv (o_len_zt (ys := c.fValue) (enc := eTApiCell) Tryz.underlying33 rfl) ?_
     refine wo c9 ?_
     refine wv (o_gt rfl rfl) ?_
     refine wpt rfl c9 rfl ?_
     refine wa rfl ?_
     refine wl_nil ?_
     exact wtc c9
    ·refine wf c9 ?_
     refine wf c9 ?_
     refine wf c9 ?_
     refine wf c9 ?_
     refine wv (r := rB false) (o_pick_f (b := c.fDelete) rfl c9 rfl) ?_
     refine wa rfl ?_
     refine wl_nil ?_
     exact wtc c9
   refine wc_cond (b := (c.fDelete && (decide (0 < (c.fValue.length : Int))))) rfl (fun c10 => ?_) (fun c10 => ?_)
   ·have h11 := cnd_t c10 h8
    refine wc_sr ?_
    refine wv (r := rI .i64 7) (o_assign rfl) ?_
    refine wl_x ?_
    refine wc_ret ?_
    refine wk_in_ret ?_
    refine wk_then_ret ?_
    obtain rfl := some_e h11
    exact wk_ret (r_1 Tryz.results55 (rv_t rfl)) (sS sN) ⟨rfl, rfl⟩
   ·have h12 := cnd_f c10 h8
    refine wc_sr ?_
    refine wv (o_fieldAddr Tryz.underlying50 rfl Tryz.sizeOf4 rfl rfl) ?_
    refine wv (o_load (i := 0) Tryz.isAgg4 rfl rfl rfl) ?_
    refine wa rfl ?_
    refine wl_x ?_
    refine wc_cond (b := c.fDelete) rfl (fun c13 => ?_) (fun c13 => ?_)
    ·have h14 := cnd_t c13 h12
     refine wc_sr ?_
     refine wv (r := rI .i64 0) (o_assign rfl) ?_
     refine wl_x ?_
     refine wc_ret ?_
     refine wk_in_ret ?_
     refine wk_then_ret ?_
     obtain rfl := some_e h14
     exact wk_ret (r_1 Tryz.results55 (rv_t rfl)) (sS sN) ⟨rfl, rfl⟩
    ·have h15 := cnd_f c13 h12
     refine wc_skip ?_
     refine wk_in_norm ?_
     refine wk_x ?_
     refine wc_sr ?_
     refine wv (o_fieldAddr Tryz.underlying50 rfl Tryz.sizeOf33 rfl rfl) ?_
     refine wv (o_load (i := 0) Tryz.isAgg33 rfl rfl rfl) ?_
     obtain ⟨r16, e18, h17⟩ := obn_e h15
     refine wc0 Tryz.call80 (vCheck_w F c.fValue r16 e18) rfl ?_
     refine wa rfl ?_
     refine wl_x ?_
     refine wc_ret ?_
     obtain rfl := some_e h17
     exact wk_ret (r_1 Tryz.results55 (rv_t rfl)) (sS sN) ⟨rfl, rfl⟩

theorem kValid_w (F : Nat) (l : (List TApiChange)) (r : Int) (h : kValid F l = some r) : Fn Tryz.prog GE 35 [rSl 4 (List.map eTApiChange l)] [] (fun R H => R = rI .i64 r ∧ H = []) := by
 refine enter (n := 21) Tryz.func35 rfl Tryz.ntmps35 rfl (fun w Z => ?_)
 refine wc_as (l' := [(0, rSl 4 (List.map eTApiChange l))]) (H' := []) rfl rfl ?_
 unfold kValid at h
 refine wc_sr ?_
 refine wv (r := rI .i64 0) (o_assign rfl) ?_
 refine wl_x ?_
 refine wc_seq ?_
 refine wc_sr ?_
 refine wm rfl ?_
 refine wv (o_len_zt (ys := l) (enc := eTApiChange) Tryz.underlying31 rfl) ?_
 refine wv (o_gt rfl rfl) ?_
 refine wl_x ?_
 refine wc_cond (b := decide (256 < (l.length : Int))) rfl (fun c1 => ?_) (fun c1 => ?_)
 ·have h2 := cnd_t c1 h
  refine wc_sr ?_
  refine wv (r := rI .i64 3) (o_assign rfl) ?_
  refine wl_x ?_
  refine wc_ret ?_
  refine wk_then_ret ?_
  obtain rfl := some_e h2
  exact wk_ret (r_1 Tryz.results35 (rv_t rfl)) sN ⟨rfl, rfl⟩
 ·have h3 := cnd_f c1 h
  refine wc_skip ?_
  refine wk_x ?_
  refine wc_seq ?_
  refine wc_sr ?_
  refine wm rfl ?_
  refine wv (o_len_zt (ys := l) (enc := eTApiChange) Tryz.underlying31 rfl) ?_
  refine wv (r := rI .i64 0) (o_move rfl) ?_
  refine wl_x ?_
  refine wc_block ?_
  obtain ⟨o46, eo47, hK48⟩ := obn_e h3
  refine wc_loop2 (S := Nat × (Int) × (Unit)) (V := (Unit) × (Unit)) 0 (fun σ => lop (fun σ => kValid_b1 F l σ) σ.1 σ.2.1 = some o46) (fun σ => [(2, rI .i64 0), (9, rSl 4 (List.map eTApiChange l)), (10, rI .i64 (l.length : Int)), (11, rI .i64 σ.2.1)]) (fun σ => []) (fun σ => σ.1) (F, 0, ()) eo47 (Sub.c rfl (Sub.c rfl (Sub.c rfl (Sub.c rfl Sub.nil)))) sN (fun σ => kValid_k1  = some r) (fun σ => [(2, rI .i64 0)]) (fun σ => []) ?_ ?_
  ·rintro ⟨n54, x31, ⟨⟩⟩ hi52
   refine wc_as (l' := [(2, rI .i64 0), (9, rSl 4 (List.map eTApiChange l)), (10, rI .i64 (l.length : Int)), (11, rI .i64 x31)]) (H' := []) rfl rfl ?_
   obtain ⟨m51, rfl, t49, h53, ht50⟩ := lop_e hi52
   replace h53 : kValid_b1 F l x31 = some t49 := h53
   unfold kValid_b1 at h53
   refine wc_sr ?_
   refine wv (o_lt rfl rfl) ?_
   refine wl_x ?_
   refine wc_seq ?_
   refine wc_cond (b := decide (x31 < (l.length : Int))) rfl (fun c55 => ?_) (fun c55 => ?_)
   ·have h56 := cnd_t c55 h53
    refine wc_skip ?_
    refine wk_x ?_
    refine wc_seq ?_
    refine wc_block ?_
    refine wc_sr ?_
    obtain ⟨g57, h58⟩ := chk_e h56
    refine wv (o_ix_z (enc := eTApiChange) (ys := l) Tryz.underlying31 Tryz.sizeOf50 rfl rfl g57) ?_
    refine wv (o_load_za Tryz.isAgg50 Tryz.sizeOf50 rfl rfl rfl) ?_
    refine w_alloc (cs := [rS ([] : Str), rB false, rv (.slice none 0 0), rI .i64 0]) Tryz.zeroValue50 rfl rfl (fun b59 => ?_)
    refine u_store_agg (i := 0) Tryz.sizeOf50 rfl rfl rfl (OneAll.c rfl) rfl rfl (cs' := [rS ((at' l x31).fKey), rB ((at' l x31).fDelete), rSl 4 (List.map eTApiCell ((at' l x31).fValue)), rI .i64 ((at' l x31).fIfVersion)]) rfl (H' := [.blk b59 (eTApiChange (at' l x31)) 50]) rfl ?_
    refine wl_y ?_
    refine wv (o_load_agg (i := 0) Tryz.isAgg50 Tryz.sizeOf50 rfl rfl rfl rfl) ?_
    obtain ⟨r60, e62, h61⟩ := obn_e h58
    refine wc0 Tryz.call55 (kCheck_w F (at' l x31) r60 e62) rfl ?_
    refine wa rfl ?_
    refine wl_y ?_
    refine wm rfl ?_
    refine wv (o_ne rfl rfl) ?_
    refine wl_x ?_
    refine wc_cond (b := !decide (r60 = 0)) rfl (fun c63 => ?_) (fun c63 => ?_)
    ·have h64 := cnd_t c63 h61
     refine wc_sr ?_
     refine wm rfl ?_
     refine wa rfl ?_
     refine wl_x ?_
     refine wc_ret ?_
     refine wk_in_ret ?_
     refine wk_then_ret ?_
     refine wk_then_ret ?_
     refine wk_cut_ret ?_
     have h65 := stp_ret h64 ht50 hK48
     refine wk_in_ret ?_
     refine wk_then_ret ?_
     obtain rfl := some_e h65
     exact wk_ret (r_1 Tryz.results35 (rv_t rfl)) (sS sN) ⟨rfl, rfl⟩
    ·have h66 := cnd_f c63 h61
     refine wc_skip ?_
     refine wk_in_norm ?_
     refine wk_x ?_
     refine wc_region ?_
     obtain ⟨g67, h68⟩ := chk_e h66
     refine wv (o_add rfl rfl g67) ?_
     refine wm rfl ?_
     refine wl_nil ?_
     have h69 := stp_next h68 ht50
     exact wk_then (wk_some (m51, x31 + 1, ()) ⟨h69, Nat.lt_succ_self _⟩ (Sub.c rfl (Sub.c rfl (Sub.c rfl (Sub.c rfl Sub.nil)))) (sS sN))
   ·have h70 := cnd_f c55 h53
    refine wc_exit ?_
    refine wk_then_exit ?_
    have h71 := stp_go h70 ht50 hK48
    exact wk_then_exit (wk_cut_hit (wk_some ((), ()) h71 (Sub.c rfl Sub.nil) sN))
  ·rintro ⟨⟨⟩, ⟨⟩⟩ h72
   refine wk_as (l' := [(2, rI .i64 0)]) (H' := []) rfl rfl ?_
   replace h72 : kValid_k1  = some r := h72
   unfold kValid_k1 at h72
   refine wk_in_hit ?_
   refine wk_x ?_
   refine wc_sr ?_
   refine wv (r := rI .i64 0) (o_assign rfl) ?_
   refine wl_x ?_
   refine wc_ret ?_
   obtain rfl := some_e h72
   exact wk_ret (r_1 Tryz.results35 (rv_t rfl)) sN ⟨rfl, rfl⟩

theorem kNew_w  (r : TKvStore) (h : kNew = some r) : Fn Tryz.prog GE 11 [] [] (fun R H => ∃ u0 : Nat, ∃ u0_0 : Nat, ∃ u0_1 : Nat, R = rv (.pointer (some ⟨u0, 0, none⟩)) ∧ H = [.blk u0 [rv (.map (some u0_0)), rv (.map (some u0_1))] 59, .map u0_0 (menc m_TApiItem r.fItems), .map u0_1 (menc m_TApiItem r.fChanged)]) := by
 refine enter (n := 5) Tryz.func11 rfl Tryz.ntmps11 rfl (fun w Z => ?_)
 refine wc_as (l' := []) (H' := []) rfl rfl ?_
 unfold kNew at h
 refine wc_sr ?_
 refine wv (r := rv (.pointer none)) (o_assign rfl) ?_
 refine wl_y ?_
 refine w_makeMap rfl (fun b1 => ?_)
 refine w_makeMap rfl (fun b2 => ?_)
 refine wv (r := rAgg [rv (.map (some b1)), rv (.map (some b2))]) (o_build59_0_1 rfl rfl rfl rfl) ?_
 refine w_box_agg rfl rfl (fun b3 => ?_)
 refine wa rfl ?_
 refine wl_x ?_
 refine wc_ret ?_
 refine wk_perm (H2 := [.blk b3 [rv (.map (some b1)), rv (.map (some b2))] 59, .map b1 (menc m_TApiItem ([] : List (Str × TApiItem))), .map b2 (menc m_TApiItem ([] : List (Str × TApiItem)))]) ((perm_front (i := 0) rfl).trans (List.Perm.cons _ ((perm_front (i := 1) rfl).trans (List.Perm.cons _ (List.Perm.refl _))))) ?_
 obtain rfl := some_e h
 exact wk_ret (r_1 Tryz.results11 (rv_t rfl)) (sC (sC (sC sN))) ⟨b3, b1, b2, rfl, rfl⟩

theorem kMade_w (b_q : Nat) (v_q_0 : Nat) (v_q_1 : Nat) (q : TKvStore) (r : Bool × TKvStore) (h : kMade q = some r) : Fn Tryz.prog GE 34 [rv (.pointer (some ⟨b_q, 0, none⟩))] [.blk b_q [rv (.map (some v_q_0)), rv (.map (some v_q_1))] 59, .map v_q_0 (menc m_TApiItem q.fItems), .map v_q_1 (menc m_TApiItem q.fChanged)] (fun R H => R = rB r.1 ∧ H = [.blk b_q [rv (.map (some v_q_0)), rv (.map (some v_q_1))] 59, .map v_q_0 (menc m_TApiItem r.2.fItems), .map v_q_1 (menc m_TApiItem r.2.fChanged)]) := by
 refine enter (n := 12) Tryz.func34 rfl Tryz.ntmps34 rfl (fun w Z => ?_)
 refine wc_as (l' := [(0, rv (.pointer (some ⟨b_q, 0, none⟩)))]) (H' := [.blk b_q [rv (.map (some v_q_0)), rv (.map (some v_q_1))] 59, .map v_q_0 (menc m_TApiItem q.fItems), .map v_q_1 (menc m_TApiItem q.fChanged)]) rfl rfl ?_
 unfold kMade at h
 refine wc_sr ?_
 refine wv (r := rB false) (o_assign rfl) ?_
 refine wl_x ?_
 refine wc_seq_mid [(2, rB true)] [.blk b_q [rv (.map (some v_q_0)), rv (.map (some v_q_1))] 59, .map v_q_0 (menc m_TApiItem q.fItems), .map v_q_1 (menc m_TApiItem q.fChanged)] ?_ ?_
 ·refine wc_region ?_
  refine wm rfl ?_
  refine wv (r := rB true) (o_pnil_ne ⟨_, Tryz.underlying25⟩ rfl) ?_
  refine wm rfl ?_
  refine wl_on (b := true) rfl rfl rfl ?_
  refine wm rfl ?_
  refine wl_on (b := true) rfl rfl rfl ?_
  refine wv (o_nilcheck rfl) ?_
  refine wl_on (b := true) rfl rfl rfl ?_
  refine wv (o_fieldAddr Tryz.underlying59 rfl Tryz.sizeOf57 rfl rfl) ?_
  refine wl_on (b := true) rfl rfl rfl ?_
  refine wv (o_load (i := 0) Tryz.isAgg57 rfl rfl rfl) ?_
  refine wl_on (b := true) rfl rfl rfl ?_
  refine wv (r := rB true) (o_mnotnil (v := some v_q_0) Tryz.underlying57 rfl) ?_
  refine wv (r := rB true) (o_pick_t (b := true) rfl rfl rfl) ?_
  refine wa rfl ?_
  refine wl_nil ?_
  exact wt
 refine wc_ret ?_
 obtain rfl := some_e h
 exact wk_ret (r_1 Tryz.results34 (rv_t rfl)) (sC (sC (sC sN))) ⟨rfl, rfl⟩

theorem kNow_w (b_q : Nat) (v_q_0 : Nat) (v_q_1 : Nat) (q : TKvStore) (key : Str) (r : TApiItem × TKvStore) (h : kNow q key = some r) : Fn Tryz.prog GE 58 [rv (.pointer (some ⟨b_q, 0, none⟩)), rS key] [.blk b_q [rv (.map (some v_q_0)), rv (.map (some v_q_1))] 59, .map v_q_0 (menc m_TApiItem q.fItems), .map v_q_1 (menc m_TApiItem q.fChanged)] (fun R H => R = rAgg (eTApiItem r.1) ∧ H = [.blk b_q [rv (.map (some v_q_0)), rv (.map (some v_q_1))] 59, .map v_q_0 (menc m_TApiItem r.2.fItems), .map v_q_1 (menc m_TApiItem r.2.fChanged)]) := by
 refine enter (n := 24) Tryz.func58 rfl Tryz.ntmps58 rfl (fun w Z => ?_)
 refine wc_as (l' := [(0, rv (.pointer (some ⟨b_q, 0, none⟩))), (1, rS key)]) (H' := [.blk b_q [rv (.map (some v_q_0)), rv (.map (some v_q_1))] 59, .map v_q_0 (menc m_TApiItem q.fItems), .map v_q_1 (menc m_TApiItem q.fChanged)]) rfl rfl ?_
 unfold kNow at h
 refine wc_sr ?_
 refine w_alloc (cs := [rS ([] : Str), rv (.slice none 0 0), rI .i64 0]) Tryz.zeroValue35 rfl rfl (fun b1 => ?_)
 refine wl_x ?_
 refine wc_seq ?_
 refine wc_sr ?_
 refine wm rfl ?_
 refine wv (o_nilcheck rfl) ?_
 refine wv (o_fieldAddr Tryz.underlying59 rfl Tryz.sizeOf57 rfl rfl) ?_
 refine wv (o_load (i := 1) Tryz.isAgg57 rfl rfl rfl) ?_
 refine wm rfl ?_
 refine wv (r := rTup [rAgg [rS ((mval q.fChanged key (TApiItem.mk ([] : Str) ([] : (List TApiCell)) 0)).fKey), rSl 4 (List.map eTApiCell ((mval q.fChanged key (TApiItem.mk ([] : Str) ([] : (List TApiCell)) 0)).fValue)), rI .i64 ((mval q.fChanged key (TApiItem.mk ([] : Str) ([] : (List TApiCell)) 0)).fVersion)], rB (mhas q.fChanged key)]) (o_mgetc (enc := m_TApiItem) (xs := q.fChanged) (z := TApiItem.mk ([] : Str) ([] : (List TApiCell)) 0) (i := 3) Tryz.underlying57 Tryz.underlying9 Tryz.zeroValue35 m_TApiItem_z rfl rfl rfl) ?_
 refine wm rfl ?_
 refine wv (o_extract rfl rfl) ?_
 refine wv (o_extract rfl rfl) ?_
 refine w_alloc (cs := [rS ([] : Str), rv (.slice none 0 0), rI .i64 0]) Tryz.zeroValue35 rfl rfl (fun b2 => ?_)
 refine u_store_agg (i := 0) Tryz.sizeOf35 rfl rfl rfl (OneAll.c rfl) rfl rfl (cs' := [rS ((mval q.fChanged key (TApiItem.mk ([] : Str) ([] : (List TApiCell)) 0)).fKey), rSl 4 (List.map eTApiCell ((mval q.fChanged key (TApiItem.mk ([] : Str) ([] : (List TApiCell)) 0)).fValue)), rI .i64 ((mval q.fChanged key (TApiItem.mk ([] : Str) ([] : (List TApiCell)) 0)).fVersion)]) rfl (H' := [.blk b2 [rS ((mval q.fChanged key (TApiItem.mk ([] : Str) ([] : (List TApiCell)) 0)).fKey), rSl 4 (List.map eTApiCell ((mval q.fChanged key (TApiItem.mk ([] : Str) ([] : (List TApiCell)) 0)).fValue)), rI .i64 ((mval q.fChanged key (TApiItem.mk ([] : Str) ([] : (List TApiCell)) 0)).fVersion)] 35, .blk b1 [rS ([] : Str), rv (.slice none 0 0), rI .i64 0] 35, .blk b_q [rv (.map (some v_q_0)), rv (.map (some v_q_1))] 59, .map v_q_0 (menc m_TApiItem q.fItems), .map v_q_1 (menc m_TApiItem q.fChanged)]) rfl ?_
 refine wa rfl ?_
 refine wl_y ?_
 refine wm rfl ?_
 refine wl_x ?_
 refine wc_cond (b := mhas q.fChanged key) rfl (fun c3 => ?_) (fun c3 => ?_)
 ·have h4 := cnd_t c3 h
  refine wc_sr ?_
  refine wv (o_load_agg (i := 0) Tryz.isAgg35 Tryz.sizeOf35 rfl rfl rfl rfl) ?_
  refine u_store_agg (i := 1) Tryz.sizeOf35 rfl rfl rfl (OneAll.c rfl) rfl rfl (cs' := [rS ((mval q.fChanged key (TApiItem.mk ([] : Str) ([] : (List TApiCell)) 0)).fKey), rSl 4 (List.map eTApiCell ((mval q.fChanged key (TApiItem.mk ([] : Str) ([] : (List TApiCell)) 0)).fValue)), rI .i64 ((mval q.fChanged key (TApiItem.mk ([] : Str) ([] : (List TApiCell)) 0)).fVersion)]) rfl (H' := [.blk b2 [rS ((mval q.fChanged key (TApiItem.mk ([] : Str) ([] : (List TApiCell)) 0)).fKey), rSl 4 (List.map eTApiCell ((mval q.fChanged key (TApiItem.mk ([] : Str) ([] : (List TApiCell)) 0)).fValue)), rI .i64 ((mval q.fChanged key (TApiItem.mk ([] : Str) ([] : (List TApiCell)) 0)).fVersion)] 35, .blk b1 [rS ((mval q.fChanged key (TApiItem.mk ([] : Str) ([] : (List TApiCell)) 0)).fKey), rSl 4 (List.map eTApiCell ((mval q.fChanged key (TApiItem.mk ([] : Str) ([] : (List TApiCell)) 0)).fValue)), rI .i64 ((mval q.fChanged key (TApiItem.mk ([] : Str) ([] : (List TApiCell)) 0)).fVersion)] 35, .blk b_q [rv (.map (some v_q_0)), rv (.map (some v_q_1))] 59, .map v_q_0 (menc m_TApiItem q.fItems), .map v_q_1 (menc m_TApiItem q.fChanged)]) rfl ?_
  refine wl_x ?_
  refine wc_ret ?_
  refine wk_then_ret ?_
  obtain rfl := some_e h4
  exact wk_ret (r_1 Tryz.results58 (rv_ca (i := 1) Tryz.isAgg35 Tryz.sizeOf35 rfl rfl rfl)) (sS (sS (sC (sC (sC sN))))) ⟨rfl, rfl⟩
 ·have h5 := cnd_f c3 h
  refine wc_skip ?_
  refine wk_x ?_
  refine wc_sr ?_
  refine wm rfl ?_
  refine wv (o_nilcheck rfl) ?_
  refine wv (o_fieldAddr Tryz.underlying59 rfl Tryz.sizeOf57 rfl rfl) ?_
  refine wv (o_load (i := 2) Tryz.isAgg57 rfl rfl rfl) ?_
  refine wm rfl ?_
  refine wv (r := rAgg [rS ((mval q.fItems key (TApiItem.mk ([] : Str) ([] : (List TApiCell)) 0)).fKey), rSl 4 (List.map eTApiCell ((mval q.fItems key (TApiItem.mk ([] : Str) ([] : (List TApiCell)) 0)).fValue)), rI .i64 ((mval q.fItems key (TApiItem.mk ([] : Str) ([] : (List TApiCell)) 0)).fVersion)]) (o_mget (enc := m_TApiItem) (xs := q.fItems) (z := TApiItem.mk ([] : Str) ([] : (List TApiCell)) 0) (i := 3) Tryz.underlying57 Tryz.underlying9 Tryz.zeroValue35 m_TApiItem_z rfl rfl rfl) ?_
  refine u_store_agg (i := 1) Tryz.sizeOf35 rfl rfl rfl (OneAll.c rfl) rfl rfl (cs' := [rS ((mval q.fItems key (TApiItem.mk ([] : Str) ([] : (List TApiCell)) 0)).fKey), rSl 4 (List.map eTApiCell ((mval q.fItems key (TApiItem.mk ([] : Str) ([] : (List TApiCell)) 0)).fValue)), rI .i64 ((mval q.fItems key (TApiItem.mk ([] : Str) ([] : (List TApiCell)) 0)).fVersion)]) rfl (H' := [.blk b2 [rS ((mval q.fChanged key (TApiItem.mk ([] : Str) ([] : (List TApiCell)) 0)).fKey), rSl 4 (List.map eTApiCell ((mval q.fChanged key (TApiItem.mk ([] : Str) ([] : (List TApiCell)) 0)).fValue)), rI .i64 ((mval q.fChanged key (TApiItem.mk ([] : Str) ([] : (List TApiCell)) 0)).fVersion)] 35, .blk b1 [rS ((mval q.fItems key (TApiItem.mk ([] : Str) ([] : (List TApiCell)) 0)).fKey), rSl 4 (List.map eTApiCell ((mval q.fItems key (TApiItem.mk ([] : Str) ([] : (List TApiCell)) 0)).fValue)), rI .i64 ((mval q.fItems key (TApiItem.mk ([] : Str) ([] : (List TApiCell)) 0)).fVersion)] 35, .blk b_q [rv (.map (some v_q_0)), rv (.map (some v_q_1))] 59, .map v_q_0 (menc m_TApiItem q.fItems), .map v_q_1 (menc m_TApiItem q.fChanged)]) rfl ?_
  refine wl_x ?_
  refine wc_ret ?_
  obtain rfl := some_e h5
  exact wk_ret (r_1 Tryz.results58 (rv_ca (i := 1) Tryz.isAgg35 Tryz.sizeOf35 rfl rfl rfl)) (sS (sS (sC (sC (sC sN))))) ⟨rfl, rfl⟩

theorem kChange_w (b_q : Nat) (v_q_0 : Nat) (v_q_1 : Nat) (q : TKvStore) (c : TApiChange) (size : Int) (r : Int × Int × TKvStore) (h : kChange q c size = some r) : Fn Tryz.prog GE 36 [rv (.pointer (some ⟨b_q, 0, none⟩)), rAgg (eTApiChange c), rI .i64 size] [.blk b_q [rv (.map (some v_q_0)), rv (.map (some v_q_1))] 59, .map v_q_0 (menc m_TApiItem q.fItems), .map v_q_1 (menc m_TApiItem q.fChanged)] (fun R H => R = rTup [rI .i64 r.1, rI .i64 r.2.1] ∧ H = [.blk b_q [rv (.map (some v_q_0)), rv (.map (some v_q_1))] 59, .map v_q_0 (menc m_TApiItem r.2.2.fItems), .map v_q_1 (menc m_TApiItem r.2.2.fChanged)]) := by
 refine enter (n := 74) Tryz.func36 rfl Tryz.ntmps36 rfl (fun w Z => ?_)
 refine wc_as (l' := [(0, rv (.pointer (some ⟨b_q, 0, none⟩))), (1, rAgg (eTApiChange c)), (2, rI .i64 size)]) (H' := [.blk b_q [rv (.map (some v_q_0)), rv (.map (some v_q_1))] 59, .map v_q_0 (menc m_TApiItem q.fItems), .map v_q_1 (menc m_TApiItem q.fChanged)]) rfl rfl ?_
 unfold kChange at h
 refine wc_sr ?_
 refine w_box_agg rfl rfl (fun b1 => ?_)
 refine wv (r := rI .i64 0) (o_assign rfl) ?_
 refine wv (r := rI .i64 0) (o_assign rfl) ?_
 refine wl_y ?_
 refine wm rfl ?_
 refine wv (o_fieldAddr Tryz.underlying50 rfl Tryz.sizeOf9 rfl rfl) ?_
 refine wv (o_load (i := 0) Tryz.isAgg9 rfl rfl rfl) ?_
 obtain ⟨r2, e4, h3⟩ := obn_e h
 refine wcl (Hr := [.blk b1 (eTApiChange c) 50]) Tryz.call58 (kNow_w b_q v_q_0 v_q_1 q c.fKey r2 e4) rfl ((perm_front (i := 1) rfl).trans (List.Perm.cons _ ((perm_front (i := 1) rfl).trans (List.Perm.cons _ ((perm_front (i := 1) rfl).trans (List.Perm.cons _ (List.Perm.refl _))))))) rfl ?_
 rintro _ _ ⟨rfl, rfl⟩
 refine w_alloc (cs := [rS ([] : Str), rv (.slice none 0 0), rI .i64 0]) Tryz.zeroValue35 rfl rfl (fun b5 => ?_)
 refine u_store_agg (i := 0) Tryz.sizeOf35 rfl rfl rfl (OneAll.c rfl) rfl rfl (cs' := [rS r2.1.fKey, rSl 4 (List.map eTApiCell r2.1.fValue), rI .i64 r2.1.fVersion]) rfl (H' := [.blk b5 (eTApiItem r2.1) 35, .blk b_q [rv (.map (some v_q_0)), rv (.map (some v_q_1))] 59, .map v_q_0 (menc m_TApiItem r2.2.fItems), .map v_q_1 (menc m_TApiItem r2.2.fChanged), .blk b1 (eTApiChange c) 50]) rfl ?_
 refine wl_x ?_
 refine wc_seq_cut (S := (Int) × (Unit)) (fun σ => kChange_j1 c r2 σ.1 = some r) (fun σ => [(0, rv (.pointer (some ⟨b_q, 0, none⟩))), (2, rI .i64 σ.1), (4, rv (.pointer (some ⟨b1, 0, none⟩))), (8, rv (.pointer (some ⟨b5, 0, none⟩)))]) (fun σ => [.blk b5 (eTApiItem r2.1) 35, .blk b_q [rv (.map (some v_q_0)), rv (.map (some v_q_1))] 59, .map v_q_0 (menc m_TApiItem r2.2.fItems), .map v_q_1 (menc m_TApiItem r2.2.fChanged), .blk b1 (eTApiChange c) 50]) ?_ ?_
 ·refine wc_block ?_
  refine wc_seq_mid [(0, rv (.pointer (some ⟨b_q, 0, none⟩))), (2, rI .i64 size), (4, rv (.pointer (some ⟨b1, 0, none⟩))), (8, rv (.pointer (some ⟨b5, 0, none⟩))), (13, rB ((decide (0 ≤ c.fIfVersion)) && (!decide (c.fIfVersion = r2.1.fVersion))))] [.blk b5 (eTApiItem r2.1) 35, .blk b_q [rv (.map (some v_q_0)), rv (.map (some v_q_1))] 59, .map v_q_0 (menc m_TApiItem r2.2.fItems), .map v_q_1 (menc m_TApiItem r2.2.fChanged), .blk b1 (eTApiChange c) 50] ?_ ?_
  ·refine wc_region ?_
   refine wv (o_fieldAddr Tryz.underlying50 rfl Tryz.sizeOf3 rfl rfl) ?_
   refine wv (o_load (i := 4) Tryz.isAgg3 rfl rfl rfl) ?_
   refine wv (o_ge rfl rfl) ?_
   refine wm rfl ?_
   refine bsplit (decide (0 ≤ c.fIfVersion)) (fun c31 => ?_) (fun c31 => ?_)
   ·refine wo c31 ?_
    refine wv (o_fieldAddr Tryz.underlying50 rfl Tryz.sizeOf3 rfl rfl) ?_
    refine wo c31 ?_
    refine wv (o_load (i := 4) Tryz.isAgg3 rfl rfl rfl) ?_
    refine wo c31 ?_
    refine wv (o_fieldAddr Tryz.underlying35 rfl Tryz.sizeOf3 rfl rfl) ?_
    refine wo c31 ?_
    refine wv (o_load (i := 0) Tryz.isAgg3 rfl rfl rfl) ?_
    refine wo c31 ?_
    refine wv (o_ne rfl rfl) ?_
    refine wpt rfl c31 rfl ?_
    refine wa rfl ?_
    refine wl_nil ?_
    exact wtc c31
   ·refine wf c31 ?_
    refine wf c31 ?_
    refine wf c31 ?_
    refine wf c31 ?_
    refine wf c31 ?_
    refine wv (r := rB false) (o_pick_f (b := decide (0 ≤ c.fIfVersion)) rfl c31 rfl) ?_
    refine wa rfl ?_
    refine wl_nil ?_
    exact wtc c31
  refine wc_cond (b := ((decide (0 ≤ c.fIfVersion)) && (!decide (c.fIfVersion = r2.1.fVersion)))) rfl (fun c32 => ?_) (fun c32 => ?_)
  ·have h33 := cnd_t c32 h3
   refine wc_sr ?_
   refine wv (r := rI .i64 0) (o_assign rfl) ?_
   refine wv (r := rI .i64 19) (o_assign rfl) ?_
   refine wl_x ?_
   refine wc_ret ?_
   refine wk_in_ret ?_
   refine wk_then_ret ?_
   obtain rfl := some_e h33
   exact wk_ret (r_2 Tryz.results36 (rv_t rfl) (rv_t rfl)) (sS (sC (sC (sC (sS sN))))) ⟨rfl, rfl⟩
  ·have h34 := cnd_f c32 h3
   refine wc_sr ?_
   refine wv (o_fieldAddr Tryz.underlying50 rfl Tryz.sizeOf4 rfl rfl) ?_
   refine wv (o_load (i := 4) Tryz.isAgg4 rfl rfl rfl) ?_
   refine wa rfl ?_
   refine wl_x ?_
   refine wc_cond (b := c.fDelete) rfl (fun c35 => ?_) (fun c35 => ?_)
   ·have h36 := cnd_t c35 h34
    refine wc_seq ?_
    refine wc_sr ?_
    refine wv (o_fieldAddr Tryz.underlying35 rfl Tryz.sizeOf3 rfl rfl) ?_
    refine wv (o_load (i := 0) Tryz.isAgg3 rfl rfl rfl) ?_
    refine wv (o_gt rfl rfl) ?_
    refine wl_x ?_
    refine wc_cond (b := decide (0 < r2.1.fVersion)) rfl (fun c37 => ?_) (fun c37 => ?_)
    ·have h38 := cnd_t c37 h36
     refine wc_region ?_
     refine wm rfl ?_
     obtain ⟨g39, h40⟩ := chk_e h38
     refine wv (o_sub rfl rfl g39) ?_
     refine wa rfl ?_
     refine wl_x ?_
     refine wc_seq ?_
     refine wc_rdak 7 [0, 2, 4] [⟨[], rv (.pointer (some ⟨b_q, 0, none⟩)), none, none, none⟩, ⟨[0], rv (.pointer (some ⟨b_q, 0, none⟩)), none, none, none⟩, ⟨[1], rv (.pointer (some ⟨b_q, 1, none⟩)), none, none, none⟩, ⟨[2], rv (.map (some v_q_1)), none, none, none⟩, ⟨[], rv (.pointer (some ⟨b1, 0, none⟩)), none, none, none⟩, ⟨[4], rS c.fKey, none, none, none⟩, ⟨[], rAgg [rS ([] : Str), rv (.slice none 0 0), rI .i64 0], none, none, none⟩] ?_ (fun β => ?_)
     ·refine oaq (o_move rfl) ?_
      refine oaq (o_nilcheck rfl) ?_
      refine oaq (o_fieldAddr Tryz.underlying59 rfl Tryz.sizeOf57 rfl rfl) ?_
      refine oaf (o_load (i := 1) Tryz.isAgg57 rfl rfl rfl) ?_
      refine oaq (o_fieldAddr Tryz.underlying50 rfl Tryz.sizeOf9 rfl rfl) ?_
      refine oaf (o_load (i := 4) Tryz.isAgg9 rfl rfl rfl) ?_
      refine oaq (o_build35_ ) ?_
      exact oae
     refine wl_kza (H1 := [.blk b5 (eTApiItem r2.1) 35, .blk b_q [rv (.map (some v_q_0)), rv (.map (some v_q_1))] 59, .map v_q_0 (menc m_TApiItem r2.2.fItems), .map v_q_1 (menc m_TApiItem r2.2.fChanged), .blk b1 (eTApiChange c) 50]) [32, 33, 34, 35, 36, 37, 38, 0, 2, 4] ?_
     refine WL.up (d := 38) (r := rAgg [rS ([] : Str), rSl 4 (List.map eTApiCell ([] : List TApiCell)), rI .i64 0]) rfl (Up.agg ⟨Up.refl _, Up.le (Rle.nil _), Up.refl _, trivial⟩) ?_
     refine u_msete (enc := m_TApiItem) (xs := r2.2.fChanged) (v := (TApiItem.mk ([] : Str) ([] : List TApiCell) 0)) (i := 3) Tryz.underlying57 Tryz.underlying9 rfl rfl rfl rfl (H' := [.blk b5 (eTApiItem r2.1) 35, .blk b_q [rv (.map (some v_q_0)), rv (.map (some v_q_1))] 59, .map v_q_0 (menc m_TApiItem r2.2.fItems), .map v_q_1 (menc m_TApiItem (mset r2.2.fChanged c.fKey (TApiItem.mk ([] : Str) ([] : List TApiCell) 0))), .blk b1 (eTApiChange c) 50]) rfl ?_
     refine wl_y ?_
     refine wm rfl ?_
     refine wa rfl ?_
     refine wv (r := rI .i64 0) (o_assign rfl) ?_
     refine wl_x ?_
     refine wc_ret ?_
     refine wk_in_ret ?_
     refine wk_then_ret ?_
     obtain rfl := some_e h40
     exact wk_ret (r_2 Tryz.results36 (rv_t rfl) (rv_t rfl)) (sS (sC (sC (sC (sS sN))))) ⟨rfl, rfl⟩
    ·have h41 := cnd_f c37 h36
     refine wc_skip ?_
     refine wk_x ?_
     refine wc_seq ?_
     refine wc_rdak 7 [0, 2, 4] [⟨[], rv (.pointer (some ⟨b_q, 0, none⟩)), none, none, none⟩, ⟨[0], rv (.pointer (some ⟨b_q, 0, none⟩)), none, none, none⟩, ⟨[1], rv (.pointer (some ⟨b_q, 1, none⟩)), none, none, none⟩, ⟨[2], rv (.map (some v_q_1)), none, none, none⟩, ⟨[], rv (.pointer (some ⟨b1, 0, none⟩)), none, none, none⟩, ⟨[4], rS c.fKey, none, none, none⟩, ⟨[], rAgg [rS ([] : Str), rv (.slice none 0 0), rI .i64 0], none, none, none⟩] ?_ (fun β => ?_)
     ·refine oaq (o_move rfl) ?_
      refine oaq (o_nilcheck rfl) ?_
      refine oaq (o_fieldAddr Tryz.underlying59 rfl Tryz.sizeOf57 rfl rfl) ?_
      refine oaf (o_load (i := 1) Tryz.isAgg57 rfl rfl rfl) ?_
      refine oaq (o_fieldAddr Tryz.underlying50 rfl Tryz.sizeOf9 rfl rfl) ?_
      refine oaf (o_load (i := 4) Tryz.isAgg9 rfl rfl rfl) ?_
      refine oaq (o_build35_ ) ?_
      exact oae
     refine wl_kza (H1 := [.blk b5 (eTApiItem r2.1) 35, .blk b_q [rv (.map (some v_q_0)), rv (.map (some v_q_1))] 59, .map v_q_0 (menc m_TApiItem r2.2.fItems), .map v_q_1 (menc m_TApiItem r2.2.fChanged), .blk b1 (eTApiChange c) 50]) [32, 33, 34, 35, 36, 37, 38, 0, 2, 4] ?_
     refine WL.up (d := 38) (r := rAgg [rS ([] : Str), rSl 4 (List.map eTApiCell ([] : List TApiCell)), rI .i64 0]) rfl (Up.agg ⟨Up.refl _, Up.le (Rle.nil _), Up.refl _, trivial⟩) ?_
     refine u_msete (enc := m_TApiItem) (xs := r2.2.fChanged) (v := (TApiItem.mk ([] : Str) ([] : List TApiCell) 0)) (i := 3) Tryz.underlying57 Tryz.underlying9 rfl rfl rfl rfl (H' := [.blk b5 (eTApiItem r2.1) 35, .blk b_q [rv (.map (some v_q_0)), rv (.map (some v_q_1))] 59, .map v_q_0 (menc m_TApiItem r2.2.fItems), .map v_q_1 (menc m_TApiItem (mset r2.2.fChanged c.fKey (TApiItem.mk ([] : Str) ([] : List TApiCell) 0))), .blk b1 (eTApiChange c) 50]) rfl ?_
     refine wl_y ?_
     refine wm rfl ?_
     refine wa rfl ?_
     refine wv (r := rI .i64 0) (o_assign rfl) ?_
     refine wl_x ?_
     refine wc_ret ?_
     refine wk_in_ret ?_
     refine wk_then_ret ?_
     obtain rfl := some_e h41
     exact wk_ret (r_2 Tryz.results36 (rv_t rfl) (rv_t rfl)) (sS (sC (sC (sC (sS sN))))) ⟨rfl, rfl⟩
   ·have h42 := cnd_f c35 h34
    refine wc_seq_mid [(0, rv (.pointer (some ⟨b_q, 0, none⟩))), (2, rI .i64 size), (4, rv (.pointer (some ⟨b1, 0, none⟩))), (8, rv (.pointer (some ⟨b5, 0, none⟩))), (40, rB ((decide (r2.1.fVersion = 0)) && (decide (256 ≤ size))))] [.blk b5 (eTApiItem r2.1) 35, .blk b_q [rv (.map (some v_q_0)), rv (.map (some v_q_1))] 59, .map v_q_0 (menc m_TApiItem r2.2.fItems), .map v_q_1 (menc m_TApiItem r2.2.fChanged), .blk b1 (eTApiChange c) 50] ?_ ?_
    ·refine wc_region ?_
     refine wv (o_fieldAddr Tryz.underlying35 rfl Tryz.sizeOf3 rfl rfl) ?_
     refine wv (o_load (i := 0) Tryz.isAgg3 rfl rfl rfl) ?_
     refine wv (o_eq rfl rfl) ?_
     refine wm rfl ?_
     refine bsplit (decide (r2.1.fVersion = 0)) (fun c43 => ?_) (fun c43 => ?_)
     ·refine wo c43 ?_
      refine wm rfl ?_
      refine wo c43 ?_
      refine wv (o_ge rfl rfl) ?_
      refine wpt rfl c43 rfl ?_
      refine wa rfl ?_
      refine wl_nil ?_
      exact wtc c43
     ·refine wf c43 ?_
      refine wf c43 ?_
      refine wv (r := rB false) (o_pick_f (b := decide (r2.1.fVersion = 0)) rfl c43 rfl) ?_
      refine wa rfl ?_
      refine wl_nil ?_
      exact wtc c43
    refine wc_cond (b := ((decide (r2.1.fVersion = 0)) && (decide (256 ≤ size)))) rfl (fun c44 => ?_) (fun c44 => ?_)
    ·have h45 := cnd_t c44 h42
     refine wc_sr ?_
     refine wv (r := rI .i64 0) (o_assign rfl) ?_
     refine wv (r := rI .i64 3) (o_assign rfl) ?_
     refine wl_x ?_
     refine wc_ret ?_
     refine wk_in_ret ?_
     refine wk_then_ret ?_
     obtain rfl := some_e h45
     exact wk_ret (r_2 Tryz.results36 (rv_t rfl) (rv_t rfl)) (sS (sC (sC (sC (sS sN))))) ⟨rfl, rfl⟩
    ·have h46 := cnd_f c44 h42
     refine wc_sr ?_
     refine wv (o_fieldAddr Tryz.underlying35 rfl Tryz.sizeOf3 rfl rfl) ?_
     refine wv (o_load (i := 0) Tryz.isAgg3 rfl rfl rfl) ?_
     refine wv (o_ge rfl rfl) ?_
     refine wa rfl ?_
     refine wl_x ?_
     refine wc_cond (b := decide (1000000000000 ≤ r2.1.fVersion)) rfl (fun c47 => ?_) (fun c47 => ?_)
     ·have h48 := cnd_t c47 h46
      refine wc_sr ?_
      refine wv (r := rI .i64 0) (o_assign rfl) ?_
      refine wv (r := rI .i64 8) (o_assign rfl) ?_
      refine wl_x ?_
      refine wc_ret ?_
      refine wk_in_ret ?_
      refine wk_then_ret ?_
      obtain rfl := some_e h48
      exact wk_ret (r_2 Tryz.results36 (rv_t rfl) (rv_t rfl)) (sS (sC (sC (sC (sS sN))))) ⟨rfl, rfl⟩
     ·have h49 := cnd_f c47 h46
      refine wc_sr ?_
      refine wv (o_fieldAddr Tryz.underlying35 rfl Tryz.sizeOf3 rfl rfl) ?_
      refine wv (o_load (i := 0) Tryz.isAgg3 rfl rfl rfl) ?_
      refine wv (o_eq rfl rfl) ?_
      refine wa rfl ?_
      refine wl_x ?_
      refine wc_cond (b := decide (r2.1.fVersion = 0)) rfl (fun c50 => ?_) (fun c50 => ?_)
      ·have h51 := cnd_t c50 h49
       refine wc_region ?_
       refine wm rfl ?_
       obtain ⟨g52, h53⟩ := chk_e h51
       refine wv (o_add rfl rfl g52) ?_
       refine wa rfl ?_
       refine wl_nil ?_
       refine wk_in_norm ?_
       exact wk_then (wk_some (size + 1, ()) h53 (Sub.c rfl (Sub.c rfl (Sub.c rfl (Sub.c rfl Sub.nil)))) (sC (sC (sC (sC (sC sN))))))
      ·have h54 := cnd_f c50 h49
       refine wc_skip ?_
       refine wk_in_norm ?_
       exact wk_then (wk_some (size, ()) h54 (Sub.c rfl (Sub.c rfl (Sub.c rfl (Sub.c rfl Sub.nil)))) (sC (sC (sC (sC (sC sN))))))
 ·rintro ⟨x30, ⟨⟩⟩ h55
  refine wc_as (l' := [(0, rv (.pointer (some ⟨b_q, 0, none⟩))), (2, rI .i64 x30), (4, rv (.pointer (some ⟨b1, 0, none⟩))), (8, rv (.pointer (some ⟨b5, 0, none⟩)))]) (H' := [.blk b5 (eTApiItem r2.1) 35, .blk b_q [rv (.map (some v_q_0)), rv (.map (some v_q_1))] 59, .map v_q_0 (menc m_TApiItem r2.2.fItems), .map v_q_1 (menc m_TApiItem r2.2.fChanged), .blk b1 (eTApiChange c) 50]) rfl rfl ?_
  replace h55 : kChange_j1 c r2 x30 = some r := h55
  unfold kChange_j1 at h55
  refine wc_seq ?_
  obtain ⟨r56, e58, h57⟩ := obn_e h55
  obtain ⟨g59, h60⟩ := chk_e h57
  refine wc_rdak 15 [0, 2, 4, 8] [⟨[], rv (.pointer (some ⟨b_q, 0, none⟩)), none, none, none⟩, ⟨[0], rv (.pointer (some ⟨b_q, 0, none⟩)), none, none, none⟩, ⟨[1], rv (.pointer (some ⟨b_q, 1, none⟩)), none, none, none⟩, ⟨[2], rv (.map (some v_q_1)), none, none, none⟩, ⟨[], rv (.pointer (some ⟨b1, 0, none⟩)), none, none, none⟩, ⟨[4], rS c.fKey, none, none, none⟩, ⟨[], rv (.pointer (some ⟨b1, 0, none⟩)), none, none, none⟩, ⟨[6], rS c.fKey, none, none, none⟩, ⟨[], rv (.pointer (some ⟨b1, 2, none⟩)), none, none, none⟩, ⟨[8], rSl 4 (List.map eTApiCell c.fValue), none, none, none⟩, ⟨[9], rSl 4 (List.map eTApiCell r56), none, none, none⟩, ⟨[], rv (.pointer (some ⟨b5, 2, none⟩)), none, none, none⟩, ⟨[11], rI .i64 r2.1.fVersion, none, none, none⟩, ⟨[12], rI .i64 (r2.1.fVersion + 1), none, none, none⟩, ⟨[7, 10, 13], rAgg [rS c.fKey, rSl 4 (List.map eTApiCell r56), rI .i64 (r2.1.fVersion + 1)], none, none, none⟩] ?_ (fun β => ?_)
  ·refine oaq (o_move rfl) ?_
   refine oaq (o_nilcheck rfl) ?_
   refine oaq (o_fieldAddr Tryz.underlying59 rfl Tryz.sizeOf57 rfl rfl) ?_
   refine oaf (o_load (i := 1) Tryz.isAgg57 rfl rfl rfl) ?_
   refine oaq (o_fieldAddr Tryz.underlying50 rfl Tryz.sizeOf9 rfl rfl) ?_
   refine oaf (o_load (i := 4) Tryz.isAgg9 rfl rfl rfl) ?_
   refine oaq (o_fieldAddr Tryz.underlying50 rfl Tryz.sizeOf9 rfl rfl) ?_
   refine oaf (o_load (i := 4) Tryz.isAgg9 rfl rfl rfl) ?_
   refine oaq (o_fieldAddr Tryz.underlying50 rfl Tryz.sizeOf33 rfl rfl) ?_
   refine oaf (o_load (i := 4) Tryz.isAgg33 rfl rfl rfl) ?_
   refine oac (ok_c0 Tryz.call59 (cloneN_w c.fValue r56 e58) rfl) ?_
   refine oaq (o_fieldAddr Tryz.underlying35 rfl Tryz.sizeOf3 rfl rfl) ?_
   refine oaf (o_load (i := 0) Tryz.isAgg3 rfl rfl rfl) ?_
   refine oaq (o_add rfl rfl g59) ?_
   refine oaq (o_build35_0_1_2 rfl rfl rfl rfl rfl rfl) ?_
   exact oae
  refine wl_kza (H1 := [.blk b5 (eTApiItem r2.1) 35, .blk b_q [rv (.map (some v_q_0)), rv (.map (some v_q_1))] 59, .map v_q_0 (menc m_TApiItem r2.2.fItems), .map v_q_1 (menc m_TApiItem r2.2.fChanged), .blk b1 (eTApiChange c) 50]) [58, 59, 60, 61, 62, 63, 64, 65, 66, 67, 68, 69, 70, 71, 72, 0, 2, 4, 8] ?_
  refine u_msete (enc := m_TApiItem) (xs := r2.2.fChanged) (v := (TApiItem.mk c.fKey r56 (r2.1.fVersion + 1))) (i := 3) Tryz.underlying57 Tryz.underlying9 rfl rfl rfl rfl (H' := [.blk b5 (eTApiItem r2.1) 35, .blk b_q [rv (.map (some v_q_0)), rv (.map (some v_q_1))] 59, .map v_q_0 (menc m_TApiItem r2.2.fItems), .map v_q_1 (menc m_TApiItem (mset r2.2.fChanged c.fKey (TApiItem.mk c.fKey r56 (r2.1.fVersion + 1)))), .blk b1 (eTApiChange c) 50]) rfl ?_
  refine wl_y ?_
  refine wm rfl ?_
  refine wa rfl ?_
  refine wv (r := rI .i64 0) (o_assign rfl) ?_
  refine wl_x ?_
  refine wc_ret ?_
  obtain rfl := some_e h60
  exact wk_ret (r_2 Tryz.results36 (rv_t rfl) (rv_t rfl)) (sS (sC (sC (sC (sS sN))))) ⟨rfl, rfl⟩

theorem kApply_w (F : Nat) (b_q : Nat) (v_q_0 : Nat) (v_q_1 : Nat) (q : TKvStore) (l : (List TApiChange)) (r : Int × TKvStore) (h : kApply F q l = some r) : Fn Tryz.prog GE 13 [rv (.pointer (some ⟨b_q, 0, none⟩)), rSl 4 (List.map eTApiChange l)] [.blk b_q [rv (.map (some v_q_0)), rv (.map (some v_q_1))] 59, .map v_q_0 (menc m_TApiItem q.fItems), .map v_q_1 (menc m_TApiItem q.fChanged)] (fun R H => R = rI .i64 r.1 ∧ H = [.blk b_q [rv (.map (some v_q_0)), rv (.map (some v_q_1))] 59, .map v_q_0 (menc m_TApiItem r.2.fItems), .map v_q_1 (menc m_TApiItem r.2.fChanged)]) := by
 refine enter (n := 72) Tryz.func13 rfl Tryz.ntmps13 rfl (fun w Z => ?_)
 refine wc_as (l' := [(0, rv (.pointer (some ⟨b_q, 0, none⟩))), (1, rSl 4 (List.map eTApiChange l))]) (H' := [.blk b_q [rv (.map (some v_q_0)), rv (.map (some v_q_1))] 59, .map v_q_0 (menc m_TApiItem q.fItems), .map v_q_1 (menc m_TApiItem q.fChanged)]) rfl rfl ?_
 unfold kApply at h
 refine wc_sr ?_
 refine wv (r := rI .i64 0) (o_assign rfl) ?_
 refine wl_x ?_
 refine wc_seq ?_
 refine wc_sr ?_
 refine wm rfl ?_
 obtain ⟨r1, e3, h2⟩ := obn_e h
 refine wcl (Hr := []) Tryz.call34 (kMade_w b_q v_q_0 v_q_1 q r1 e3) rfl (List.Perm.refl _) rfl ?_
 rintro _ _ ⟨rfl, rfl⟩
 refine wv (o_not rfl) ?_
 refine wl_x ?_
 refine wc_cond (b := !r1.1) rfl (fun c4 => ?_) (fun c4 => ?_)
 ·have h5 := cnd_t c4 h2
  refine wc_sr ?_
  refine wv (r := rI .i64 10) (o_assign rfl) ?_
  refine wl_x ?_
  refine wc_ret ?_
  refine wk_then_ret ?_
  obtain rfl := some_e h5
  exact wk_ret (r_1 Tryz.results13 (rv_t rfl)) (sC (sC (sC sN))) ⟨rfl, rfl⟩
 ·have h6 := cnd_f c4 h2
  refine wc_skip ?_
  refine wk_x ?_
  refine wc_seq ?_
  refine wc_sr ?_
  refine wm rfl ?_
  obtain ⟨r7, e9, h8⟩ := obn_e h6
  refine wc0 Tryz.call35 (kValid_w F l r7 e9) rfl ?_
  refine wa rfl ?_
  refine wl_y ?_
  refine wm rfl ?_
  refine wv (o_ne rfl rfl) ?_
  refine wl_x ?_
  refine wc_cond (b := !decide (r7 = 0)) rfl (fun c10 => ?_) (fun c10 => ?_)
  ·have h11 := cnd_t c10 h8
   refine wc_sr ?_
   refine wm rfl ?_
   refine wa rfl ?_
   refine wl_x ?_
   refine wc_ret ?_
   refine wk_then_ret ?_
   obtain rfl := some_e h11
   exact wk_ret (r_1 Tryz.results13 (rv_t rfl)) (sC (sC (sC sN))) ⟨rfl, rfl⟩
  ·have h12 := cnd_f c10 h8
   refine wc_skip ?_
   refine wk_x ?_
   refine wc_sr ?_
   refine wm rfl ?_
   refine wv (o_nilcheck rfl) ?_
   refine wv (o_fieldAddr Tryz.underlying59 rfl Tryz.sizeOf57 rfl rfl) ?_
   refine wv (o_load (i := 0) Tryz.isAgg57 rfl rfl rfl) ?_
   refine u_mclear (i := 2) Tryz.underlying57 rfl rfl (H' := [.blk b_q [rv (.map (some v_q_0)), rv (.map (some v_q_1))] 59, .map v_q_0 (menc m_TApiItem r1.2.fItems), .map v_q_1 (menc m_TApiItem ([] : List (Str × TApiItem)))]) rfl ?_
   refine wl_y ?_
   refine wm rfl ?_
   refine wv (o_nilcheck rfl) ?_
   refine wv (o_fieldAddr Tryz.underlying59 rfl Tryz.sizeOf57 rfl rfl) ?_
   refine wv (o_load (i := 0) Tryz.isAgg57 rfl rfl rfl) ?_
   refine wv (r := rI .i64 (r1.2.fItems.length : Int)) (o_mlen (N := r1.2.fItems.length) (i := 1) Tryz.underlying57 rfl rfl (menc_length _ _)) ?_
   refine wa rfl ?_
   refine wl_x ?_
   refine wc_seq ?_
   refine wc_sr ?_
   refine wm rfl ?_
   refine wv (o_len_zt (ys := l) (enc := eTApiChange) Tryz.underlying31 rfl) ?_
   refine wv (r := rI .i64 0) (o_move rfl) ?_
   refine wl_x ?_
   refine wc_block ?_
   obtain ⟨o63, eo64, hK65⟩ := obn_e h12
   refine wc_loop2 (S := Nat × (Int × Int × (List (Str × TApiItem)) × (List (Str × TApiItem))) × (Unit)) (V := ((List (Str × TApiItem)) × (List (Str × TApiItem))) × (Unit)) 0 (fun σ => lop (fun σ => kApply_b1 l σ.1 σ.2.1 σ.2.2.1 σ.2.2.2) σ.1 σ.2.1 = some o63) (fun σ => [(0, rv (.pointer (some ⟨b_q, 0, none⟩))), (4, rI .i64 0), (6, rI .i64 σ.2.1.1), (30, rSl 4 (List.map eTApiChange l)), (31, rI .i64 (l.length : Int)), (32, rI .i64 σ.2.1.2.1)]) (fun σ => [.blk b_q [rv (.map (some v_q_0)), rv (.map (some v_q_1))] 59, .map v_q_0 (menc m_TApiItem σ.2.1.2.2.1), .map v_q_1 (menc m_TApiItem σ.2.1.2.2.2)]) (fun σ => σ.1) (F, ((r1.2.fItems.length : Int), 0, r1.2.fItems, ([] : List (Str × TApiItem))), ()) eo64 (Sub.c rfl (Sub.c5 rfl rfl rfl rfl rfl Sub.nil)) (sC (sC (sC sN))) (fun σ => kApply_k1 σ.1.1 σ.1.2 = some r) (fun σ => [(0, rv (.pointer (some ⟨b_q, 0, none⟩))), (4, rI .i64 0)]) (fun σ => [.blk b_q [rv (.map (some v_q_0)), rv (.map (some v_q_1))] 59, .map v_q_0 (menc m_TApiItem σ.1.1), .map v_q_1 (menc m_TApiItem σ.1.2)]) ?_ ?_
   ·rintro ⟨n71, ⟨x43, x44, x45, x46⟩, ⟨⟩⟩ hi69
    refine wc_as (l' := [(0, rv (.pointer (some ⟨b_q, 0, none⟩))), (4, rI .i64 0), (6, rI .i64 x43), (30, rSl 4 (List.map eTApiChange l)), (31, rI .i64 (l.length : Int)), (32, rI .i64 x44)]) (H' := [.blk b_q [rv (.map (some v_q_0)), rv (.map (some v_q_1))] 59, .map v_q_0 (menc m_TApiItem x45), .map v_q_1 (menc m_TApiItem x46)]) rfl rfl ?_
    obtain ⟨m68, rfl, t66, h70, ht67⟩ := lop_e hi69
    replace h70 : kApply_b1 l x43 x44 x45 x46 = some t66 := h70
    unfold kApply_b1 at h70
    refine wc_sr ?_
    refine wv (o_lt rfl rfl) ?_
    refine wl_x ?_
    refine wc_seq ?_
    refine wc_cond (b := decide (x44 < (l.length : Int))) rfl (fun c72 => ?_) (fun c72 => ?_)
    ·have h73 := cnd_t c72 h70
     refine wc_skip ?_
     refine wk_x ?_
     refine wc_seq ?_
     refine wc_block ?_
     refine wc_sr ?_
     obtain ⟨g74, h75⟩ := chk_e h73
     refine wv (o_ix_z (enc := eTApiChange) (ys := l) Tryz.underlying31 Tryz.sizeOf50 rfl rfl g74) ?_
     refine wv (o_load_za Tryz.isAgg50 Tryz.sizeOf50 rfl rfl rfl) ?_
     refine w_alloc (cs := [rS ([] : Str), rB false, rv (.slice none 0 0), rI .i64 0]) Tryz.zeroValue50 rfl rfl (fun b76 => ?_)
     refine u_store_agg (i := 0) Tryz.sizeOf50 rfl rfl rfl (OneAll.c rfl) rfl rfl (cs' := [rS ((at' l x44).fKey), rB ((at' l x44).fDelete), rSl 4 (List.map eTApiCell ((at' l x44).fValue)), rI .i64 ((at' l x44).fIfVersion)]) rfl (H' := [.blk b76 (eTApiChange (at' l x44)) 50, .blk b_q [rv (.map (some v_q_0)), rv (.map (some v_q_1))] 59, .map v_q_0 (menc m_TApiItem x45), .map v_q_1 (menc m_TApiItem x46)]) rfl ?_
     refine wl_y ?_
     refine wm rfl ?_
     refine wv (o_load_agg (i := 0) Tryz.isAgg50 Tryz.sizeOf50 rfl rfl rfl rfl) ?_
     refine wm rfl ?_
     obtain ⟨r77, e79, h78⟩ := obn_e h75
     refine wcl (Hr := [.blk b76 (eTApiChange (at' l x44)) 50]) Tryz.call36 (kChange_w b_q v_q_0 v_q_1 (TKvStore.mk x45 x46) (at' l x44) x43 r77 e79) rfl ((perm_front (i := 1) rfl).trans (List.Perm.cons _ ((perm_front (i := 1) rfl).trans (List.Perm.cons _ ((perm_front (i := 1) rfl).trans (List.Perm.cons _ (List.Perm.refl _))))))) rfl ?_
     rintro _ _ ⟨rfl, rfl⟩
     refine wm rfl ?_
     refine wv (o_extract rfl rfl) ?_
     refine wv (o_extract rfl rfl) ?_
     refine wa rfl ?_
     refine wa rfl ?_
     refine wl_x ?_
     refine wc_seq ?_
     refine wc_sr ?_
     refine wm rfl ?_
     refine wv (o_ne rfl rfl) ?_
     refine wl_x ?_
     refine wc_cond (b := !decide (r77.2.1 = 0)) rfl (fun c80 => ?_) (fun c80 => ?_)
     ·have h81 := cnd_t c80 h78
      refine wc_sr ?_
      refine wm rfl ?_
      refine wa rfl ?_
      refine wl_x ?_
      refine wc_ret ?_
      refine wk_then_ret ?_
      refine wk_in_ret ?_
      refine wk_then_ret ?_
      refine wk_then_ret ?_
      refine wk_cut_ret ?_
      have h82 := stp_ret h81 ht67 hK65
      refine wk_in_ret ?_
      refine wk_then_ret ?_
      obtain rfl := some_e h82
      exact wk_ret (r_1 Tryz.results13 (rv_t rfl)) (sC (sC (sC (sS sN)))) ⟨rfl, rfl⟩
     ·have h83 := cnd_f c80 h78
      refine wc_skip ?_
      refine wk_x ?_
      refine wc_region ?_
      refine wm rfl ?_
      refine wa rfl ?_
      refine wl_nil ?_
      refine wk_in_norm ?_
      refine wk_x ?_
      refine wc_region ?_
      obtain ⟨g84, h85⟩ := chk_e h83
      refine wv (o_add rfl rfl g84) ?_
      refine wm rfl ?_
      refine wl_nil ?_
      have h86 := stp_next h85 ht67
      exact wk_then (wk_some (m68, (r77.1, x44 + 1, r77.2.2.fItems, r77.2.2.fChanged), ()) ⟨h86, Nat.lt_succ_self _⟩ (Sub.c rfl (Sub.c5 rfl rfl rfl rfl rfl Sub.nil)) (sC (sC (sC (sS sN)))))
    ·have h87 := cnd_f c72 h70
     refine wc_exit ?_
     refine wk_then_exit ?_
     have h88 := stp_go h87 ht67 hK65
     exact wk_then_exit (wk_cut_hit (wk_some ((x45, x46), ()) h88 (Sub.c rfl (Sub.c rfl Sub.nil)) (sC (sC (sC sN)))))
   ·rintro ⟨⟨x61, x62⟩, ⟨⟩⟩ h89
    refine wk_as (l' := [(0, rv (.pointer (some ⟨b_q, 0, none⟩))), (4, rI .i64 0)]) (H' := [.blk b_q [rv (.map (some v_q_0)), rv (.map (some v_q_1))] 59, .map v_q_0 (menc m_TApiItem x61), .map v_q_1 (menc m_TApiItem x62)]) rfl rfl ?_
    replace h89 : kApply_k1 x61 x62 = some r := h89
    unfold kApply_k1 at h89
    refine wk_in_hit ?_
    refine wk_x ?_
    refine wc_seq ?_
    refine wc_sr ?_
    refine wm rfl ?_
    refine wv (o_nilcheck rfl) ?_
    refine wv (o_fieldAddr Tryz.underlying59 rfl Tryz.sizeOf57 rfl rfl) ?_
    refine wv (o_load (i := 0) Tryz.isAgg57 rfl rfl rfl) ?_
    refine w_range (i := 2) Tryz.underlying57 rfl rfl rfl (fun b90 => ?_)
    refine wl_x ?_
    refine wc_block ?_
    have h124 := mobn_e h89
    refine wc_loop2 (S := (List (Str × TApiItem)) × ((List (Str × TApiItem))) × (Unit)) (V := ((List (Str × TApiItem))) × (Unit)) 2 (fun σ => ∀ q : List (Str × TApiItem), q.Perm σ.1 → obn (lfe (fun p τ => kApply_b2 p.1 p.2 τ) q σ.2.1) (oute fun ν => kApply_k2 x62 ν) = some r) (fun σ => [(0, rv (.pointer (some ⟨b_q, 0, none⟩))), (52, rv (.pointer (some ⟨b90, 0, none⟩)))]) (fun σ => [.blk b_q [rv (.map (some v_q_0)), rv (.map (some v_q_1))] 59, .map v_q_0 (menc m_TApiItem σ.2.1), .mit v_q_1 b90 (menc m_TApiItem x62) (menc m_TApiItem σ.1) none]) (fun σ => σ.1.length) (x62, x61, ()) h124 (Sub.c rfl (Sub.c rfl Sub.nil)) (sC (sC (sC sN))) (fun σ => kApply_k2 x62 σ.1 = some r) (fun σ => [(0, rv (.pointer (some ⟨b_q, 0, none⟩))), (52, rv (.pointer (some ⟨b90, 0, none⟩)))]) (fun σ => [.blk b_q [rv (.map (some v_q_0)), rv (.map (some v_q_1))] 59, .map v_q_0 (menc m_TApiItem σ.1), .map v_q_1 (menc m_TApiItem x62)]) ?_ ?_
    ·rintro ⟨y101, x116, ⟨⟩⟩ h96
     refine wc_as (l' := [(0, rv (.pointer (some ⟨b_q, 0, none⟩))), (52, rv (.pointer (some ⟨b90, 0, none⟩)))]) (H' := [.blk b_q [rv (.map (some v_q_0)), rv (.map (some v_q_1))] 59, .map v_q_0 (menc m_TApiItem x116), .mit v_q_1 b90 (menc m_TApiItem x62) (menc m_TApiItem y101) none]) rfl rfl ?_
     refine wc_sr ?_
     refine w_next (enc := m_TApiItem) (ys := y101) (i := 2) rfl rfl rfl (fun hy => ?_) (fun p y102 h95 => ?_)
     ·have h125 : kApply_k2 x62 x116 = some r := lfe_nil h96 hy
      refine wv (o_extract rfl rfl) ?_
      refine wl_x ?_
      refine wc_seq ?_
      refine wc_cond_f rfl rfl ?_
      refine wc_exit ?_
      refine wk_then_exit ?_
      refine WK.unmit (i := 2) rfl ?_
      exact wk_then_exit (wk_cut_hit (wk_some (x116, ()) h125 (Sub.c rfl (Sub.c rfl Sub.nil)) (sC (sC (sC sN)))))
     ·obtain ⟨x100, x99⟩ := p
      obtain ⟨t97, h126, h98⟩ := lfe_e h96 h95
      replace h126 : kApply_b2 x100 x99 x116 = some t97 := h126
      unfold kApply_b2 at h126
      refine wl_asH (H' := [.blk b_q [rv (.map (some v_q_0)), rv (.map (some v_q_1))] 59, .map v_q_0 (menc m_TApiItem x116), .mit v_q_1 b90 (menc m_TApiItem x62) (menc m_TApiItem y102) (some (x100, m_TApiItem x99))]) rfl ?_
      refine wv (o_extract rfl rfl) ?_
      refine wl_x ?_
      refine wc_seq ?_
      refine wc_cond_t rfl rfl ?_
      refine wc_skip ?_
      refine wk_x ?_
      refine wc_block ?_
      refine wc_sr ?_
      refine wv (r := rTup [rS x100, rAgg (eTApiItem x99)]) (o_entry (i := 2) rfl rfl) ?_
      refine wv (o_extract rfl rfl) ?_
      refine wv (o_extract rfl rfl) ?_
      refine w_alloc (cs := [rS ([] : Str), rv (.slice none 0 0), rI .i64 0]) Tryz.zeroValue35 rfl rfl (fun b127 => ?_)
      refine wa rfl ?_
      refine u_store_agg (i := 0) Tryz.sizeOf35 rfl rfl rfl (OneAll.c rfl) rfl rfl (cs' := [rS x99.fKey, rSl 4 (List.map eTApiCell x99.fValue), rI .i64 x99.fVersion]) rfl (H' := [.blk b127 (eTApiItem x99) 35, .blk b_q [rv (.map (some v_q_0)), rv (.map (some v_q_1))] 59, .map v_q_0 (menc m_TApiItem x116), .mit v_q_1 b90 (menc m_TApiItem x62) (menc m_TApiItem y102) (some (x100, m_TApiItem x99))]) rfl ?_
      refine wl_x ?_
      refine wc_seq ?_
      refine wc_sr ?_
      refine wv (o_fieldAddr Tryz.underlying35 rfl Tryz.sizeOf3 rfl rfl) ?_
      refine wv (o_load (i := 0) Tryz.isAgg3 rfl rfl rfl) ?_
      refine wv (o_eq rfl rfl) ?_
      refine wl_x ?_
      refine wc_cond (b := decide (x99.fVersion = 0)) rfl (fun c128 => ?_) (fun c128 => ?_)
      ·have h129 := cnd_t c128 h126
       refine wc_sr ?_
       refine wm rfl ?_
       refine wv (o_nilcheck rfl) ?_
       refine wv (o_fieldAddr Tryz.underlying59 rfl Tryz.sizeOf57 rfl rfl) ?_
       refine wv (o_load (i := 1) Tryz.isAgg57 rfl rfl rfl) ?_
       refine wm rfl ?_
       refine u_mdele (enc := m_TApiItem) (xs := x116) (i := 2) Tryz.underlying57 Tryz.underlying9 rfl rfl rfl (H' := [.blk b127 (eTApiItem x99) 35, .blk b_q [rv (.map (some v_q_0)), rv (.map (some v_q_1))] 59, .map v_q_0 (menc m_TApiItem (mdel x116 x100)), .mit v_q_1 b90 (menc m_TApiItem x62) (menc m_TApiItem y102) (some (x100, m_TApiItem x99))]) rfl ?_
       refine wl_x ?_
       refine wc_exit ?_
       refine wk_then_exit ?_
       refine wk_in_hit ?_
       refine WK.uncur (i := 3) rfl ?_
       have h130 := lstp_next h129 h98
       exact wk_then (wk_some (y102, mdel x116 x100, ()) ⟨h130, perm_lt h95⟩ (Sub.c rfl (Sub.c rfl Sub.nil)) (sS (sC (sC (sC sN)))))
      ·have h131 := cnd_f c128 h126
       refine wc_skip ?_
       refine wk_x ?_
       refine wc_rdak 6 [0, 11, 12, 52] [⟨[], rv (.pointer (some ⟨b_q, 0, none⟩)), none, none, none⟩, ⟨[0], rv (.pointer (some ⟨b_q, 0, none⟩)), none, none, none⟩, ⟨[1], rv (.pointer (some ⟨b_q, 0, none⟩)), none, none, none⟩, ⟨[2], rv (.map (some v_q_0)), none, none, none⟩, ⟨[], rS x100, none, none, none⟩, ⟨[], rAgg (eTApiItem x99), none, none, none⟩] ?_ (fun β => ?_)
       ·refine oaq (o_move rfl) ?_
        refine oaq (o_nilcheck rfl) ?_
        refine oaq (o_fieldAddr Tryz.underlying59 rfl Tryz.sizeOf57 rfl rfl) ?_
        refine oaf (o_load (i := 1) Tryz.isAgg57 rfl rfl rfl) ?_
        refine oaq (o_move rfl) ?_
        refine oaf (o_load_agg (i := 0) Tryz.isAgg35 Tryz.sizeOf35 rfl rfl rfl rfl) ?_
        exact oae
       refine wl_kza (H1 := [.blk b127 (eTApiItem x99) 35, .blk b_q [rv (.map (some v_q_0)), rv (.map (some v_q_1))] 59, .map v_q_0 (menc m_TApiItem x116), .mit v_q_1 b90 (menc m_TApiItem x62) (menc m_TApiItem y102) (some (x100, m_TApiItem x99))]) [66, 67, 68, 69, 70, 71, 0, 11, 12, 52] ?_
       refine u_msete (enc := m_TApiItem) (xs := x116) (v := x99) (i := 2) Tryz.underlying57 Tryz.underlying9 rfl rfl rfl rfl (H' := [.blk b127 (eTApiItem x99) 35, .blk b_q [rv (.map (some v_q_0)), rv (.map (some v_q_1))] 59, .map v_q_0 (menc m_TApiItem (mset x116 x100 x99)), .mit v_q_1 b90 (menc m_TApiItem x62) (menc m_TApiItem y102) (some (x100, m_TApiItem x99))]) rfl ?_
       refine wl_nil ?_
       refine wk_in_norm ?_
       refine WK.uncur (i := 3) rfl ?_
       have h132 := lstp_next h131 h98
       exact wk_then (wk_some (y102, mset x116 x100 x99, ()) ⟨h132, perm_lt h95⟩ (Sub.c rfl (Sub.c rfl Sub.nil)) (sS (sC (sC (sC sN)))))
    ·rintro ⟨x123, ⟨⟩⟩ h133
     refine wk_as (l' := [(0, rv (.pointer (some ⟨b_q, 0, none⟩))), (52, rv (.pointer (some ⟨b90, 0, none⟩)))]) (H' := [.blk b_q [rv (.map (some v_q_0)), rv (.map (some v_q_1))] 59, .map v_q_0 (menc m_TApiItem x123), .map v_q_1 (menc m_TApiItem x62)]) rfl rfl ?_
     replace h133 : kApply_k2 x62 x123 = some r := h133
     unfold kApply_k2 at h133
     refine wk_in_hit ?_
     refine wk_x ?_
     refine wc_sr ?_
     refine wv (r := rI .i64 0) (o_assign rfl) ?_
     refine wl_x ?_
     refine wc_ret ?_
     obtain rfl := some_e h133
     exact wk_ret (r_1 Tryz.results13 (rv_t rfl)) (sC (sC (sC sN))) ⟨rfl, rfl⟩

theorem kOwn_w (x : TApiItem) (r : TApiItem) (h : kOwn x = some r) : Fn Tryz.prog GE 39 [rAgg (eTApiItem x)] [] (fun R H => R = rAgg (eTApiItem r) ∧ H = []) := by
 refine enter (n := 8) Tryz.func39 rfl Tryz.ntmps39 rfl (fun w Z => ?_)
 refine wc_as (l' := [(0, rAgg (eTApiItem x))]) (H' := []) rfl rfl ?_
 unfold kOwn at h
 refine wc_sr ?_
 refine w_box_agg rfl rfl (fun b1 => ?_)
 refine w_alloc (cs := [rS ([] : Str), rv (.slice none 0 0), rI .i64 0]) Tryz.zeroValue35 rfl rfl (fun b2 => ?_)
 refine wl_y ?_
 refine wv (o_fieldAddr Tryz.underlying35 rfl Tryz.sizeOf33 rfl rfl) ?_
 refine wv (o_load (i := 1) Tryz.isAgg33 rfl rfl rfl) ?_
 obtain ⟨r3, e5, h4⟩ := obn_e h
 refine wc0 Tryz.call59 (cloneN_w x.fValue r3 e5) rfl ?_
 refine wv (o_fieldAddr Tryz.underlying35 rfl Tryz.sizeOf33 rfl rfl) ?_
 refine u_store (i := 1) Tryz.sizeOf33 rfl rfl (one_c rfl) rfl rfl (cs' := [rS x.fKey, rSl 4 (List.map eTApiCell r3), rI .i64 x.fVersion]) rfl (H' := [.blk b2 [rS ([] : Str), rv (.slice none 0 0), rI .i64 0] 35, .blk b1 [rS x.fKey, rSl 4 (List.map eTApiCell r3), rI .i64 x.fVersion] 35]) rfl ?_
 refine wl_y ?_
 refine wv (o_load_agg (i := 1) Tryz.isAgg35 Tryz.sizeOf35 rfl rfl rfl rfl) ?_
 refine u_store_agg (i := 0) Tryz.sizeOf35 rfl rfl rfl (OneAll.c rfl) rfl rfl (cs' := [rS x.fKey, rSl 4 (List.map eTApiCell r3), rI .i64 x.fVersion]) rfl (H' := [.blk b2 [rS x.fKey, rSl 4 (List.map eTApiCell r3), rI .i64 x.fVersion] 35, .blk b1 [rS x.fKey, rSl 4 (List.map eTApiCell r3), rI .i64 x.fVersion] 35]) rfl ?_
 refine wl_x ?_
 refine wc_ret ?_
 obtain rfl := some_e h4
 exact wk_ret (r_1 Tryz.results39 (rv_ca (i := 0) Tryz.isAgg35 Tryz.sizeOf35 rfl rfl rfl)) (sS (sS sN)) ⟨rfl, rfl⟩

theorem kGet_w (b_q : Nat) (v_q_0 : Nat) (v_q_1 : Nat) (q : TKvStore) (key : Str) (r : TApiItem × Bool × TKvStore) (h : kGet q key = some r) : Fn Tryz.prog GE 17 [rv (.pointer (some ⟨b_q, 0, none⟩)), rS key] [.blk b_q [rv (.map (some v_q_0)), rv (.map (some v_q_1))] 59, .map v_q_0 (menc m_TApiItem q.fItems), .map v_q_1 (menc m_TApiItem q.fChanged)] (fun R H => R = rTup [rAgg (eTApiItem r.1), rB r.2.1] ∧ H = [.blk b_q [rv (.map (some v_q_0)), rv (.map (some v_q_1))] 59, .map v_q_0 (menc m_TApiItem r.2.2.fItems), .map v_q_1 (menc m_TApiItem r.2.2.fChanged)]) := by
 refine enter (n := 24) Tryz.func17 rfl Tryz.ntmps17 rfl (fun w Z => ?_)
 refine wc_as (l' := [(0, rv (.pointer (some ⟨b_q, 0, none⟩))), (1, rS key)]) (H' := [.blk b_q [rv (.map (some v_q_0)), rv (.map (some v_q_1))] 59, .map v_q_0 (menc m_TApiItem q.fItems), .map v_q_1 (menc m_TApiItem q.fChanged)]) rfl rfl ?_
 unfold kGet at h
 refine wc_sr ?_
 refine w_alloc (cs := [rS ([] : Str), rv (.slice none 0 0), rI .i64 0]) Tryz.zeroValue35 rfl rfl (fun b1 => ?_)
 refine wv (r := rB false) (o_assign rfl) ?_
 refine wl_x ?_
 refine wc_seq ?_
 refine wc_sr ?_
 refine wm rfl ?_
 obtain ⟨r2, e4, h3⟩ := obn_e h
 refine wcl (Hr := [.blk b1 [rS ([] : Str), rv (.slice none 0 0), rI .i64 0] 35]) Tryz.call34 (kMade_w b_q v_q_0 v_q_1 q r2 e4) rfl ((perm_front (i := 1) rfl).trans (List.Perm.cons _ ((perm_front (i := 1) rfl).trans (List.Perm.cons _ ((perm_front (i := 1) rfl).trans (List.Perm.cons _ (List.Perm.refl _))))))) rfl ?_
 rintro _ _ ⟨rfl, rfl⟩
 refine wv (o_not rfl) ?_
 refine wl_x ?_
 refine wc_cond (b := !r2.1) rfl (fun c5 => ?_) (fun c5 => ?_)
 ·have h6 := cnd_t c5 h3
  refine wc_sr ?_
  refine wv (r := rAgg [rS ([] : Str), rv (.slice none 0 0), rI .i64 0]) (o_build35_ ) ?_
  refine u_store_agg (i := 3) Tryz.sizeOf35 rfl rfl rfl (OneAll.c rfl) rfl rfl (cs' := [rS ([] : Str), rv (.slice none 0 0), rI .i64 0]) rfl (H' := [.blk b_q [rv (.map (some v_q_0)), rv (.map (some v_q_1))] 59, .map v_q_0 (menc m_TApiItem r2.2.fItems), .map v_q_1 (menc m_TApiItem r2.2.fChanged), .blk b1 [rS ([] : Str), rv (.slice none 0 0), rI .i64 0] 35]) rfl ?_
  refine wv (r := rB false) (o_assign rfl) ?_
  refine wl_x ?_
  refine wc_ret ?_
  refine wk_then_ret ?_
  refine WK.upBlk (i := 3) (cs' := [rS ([] : Str), rSl 4 (List.map eTApiCell ([] : List TApiCell)), rI .i64 0]) rfl ⟨Up.refl _, Up.le (Rle.nil _), Up.refl _, trivial⟩ ?_
  obtain rfl := some_e h6
  exact wk_ret (r_2 Tryz.results17 (rv_ca (i := 3) Tryz.isAgg35 Tryz.sizeOf35 rfl rfl rfl) (rv_t rfl)) (sC (sC (sC (sS sN)))) ⟨rfl, rfl⟩
 ·have h7 := cnd_f c5 h3
  refine wc_skip ?_
  refine wk_x ?_
  refine wc_sr ?_
  refine wm rfl ?_
  refine wv (o_nilcheck rfl) ?_
  refine wv (o_fieldAddr Tryz.underlying59 rfl Tryz.sizeOf57 rfl rfl) ?_
  refine wv (o_load (i := 0) Tryz.isAgg57 rfl rfl rfl) ?_
  refine wm rfl ?_
  refine wv (r := rTup [rAgg [rS ((mval r2.2.fItems key (TApiItem.mk ([] : Str) ([] : (List TApiCell)) 0)).fKey), rSl 4 (List.map eTApiCell ((mval r2.2.fItems key (TApiItem.mk ([] : Str) ([] : (List TApiCell)) 0)).fValue)), rI .i64 ((mval r2.2.fItems key (TApiItem.mk ([] : Str) ([] : (List TApiCell)) 0)).fVersion)], rB (mhas r2.2.fItems key)]) (o_mgetc (enc := m_TApiItem) (xs := r2.2.fItems) (z := TApiItem.mk ([] : Str) ([] : (List TApiCell)) 0) (i := 1) Tryz.underlying57 Tryz.underlying9 Tryz.zeroValue35 m_TApiItem_z rfl rfl rfl) ?_
  refine wm rfl ?_
  refine wv (o_extract rfl rfl) ?_
  refine wv (o_extract rfl rfl) ?_
  refine w_alloc (cs := [rS ([] : Str), rv (.slice none 0 0), rI .i64 0]) Tryz.zeroValue35 rfl rfl (fun b8 => ?_)
  refine u_store_agg (i := 0) Tryz.sizeOf35 rfl rfl rfl (OneAll.c rfl) rfl rfl (cs' := [rS ((mval r2.2.fItems key (TApiItem.mk ([] : Str) ([] : (List TApiCell)) 0)).fKey), rSl 4 (List.map eTApiCell ((mval r2.2.fItems key (TApiItem.mk ([] : Str) ([] : (List TApiCell)) 0)).fValue)), rI .i64 ((mval r2.2.fItems key (TApiItem.mk ([] : Str) ([] : (List TApiCell)) 0)).fVersion)]) rfl (H' := [.blk b8 [rS ((mval r2.2.fItems key (TApiItem.mk ([] : Str) ([] : (List TApiCell)) 0)).fKey), rSl 4 (List.map eTApiCell ((mval r2.2.fItems key (TApiItem.mk ([] : Str) ([] : (List TApiCell)) 0)).fValue)), rI .i64 ((mval r2.2.fItems key (TApiItem.mk ([] : Str) ([] : (List TApiCell)) 0)).fVersion)] 35, .blk b_q [rv (.map (some v_q_0)), rv (.map (some v_q_1))] 59, .map v_q_0 (menc m_TApiItem r2.2.fItems), .map v_q_1 (menc m_TApiItem r2.2.fChanged), .blk b1 [rS ([] : Str), rv (.slice none 0 0), rI .i64 0] 35]) rfl ?_
  refine wa rfl ?_
  refine wl_y ?_
  refine wv (o_load_agg (i := 0) Tryz.isAgg35 Tryz.sizeOf35 rfl rfl rfl rfl) ?_
  obtain ⟨r9, e11, h10⟩ := obn_e h7
  refine wc0 Tryz.call39 (kOwn_w (mval r2.2.fItems key (TApiItem.mk ([] : Str) ([] : (List TApiCell)) 0)) r9 e11) rfl ?_
  refine wm rfl ?_
  refine u_store_agg (i := 4) Tryz.sizeOf35 rfl rfl rfl (OneAll.c rfl) rfl rfl (cs' := [rS r9.fKey, rSl 4 (List.map eTApiCell r9.fValue), rI .i64 r9.fVersion]) rfl (H' := [.blk b8 [rS ((mval r2.2.fItems key (TApiItem.mk ([] : Str) ([] : (List TApiCell)) 0)).fKey), rSl 4 (List.map eTApiCell ((mval r2.2.fItems key (TApiItem.mk ([] : Str) ([] : (List TApiCell)) 0)).fValue)), rI .i64 ((mval r2.2.fItems key (TApiItem.mk ([] : Str) ([] : (List TApiCell)) 0)).fVersion)] 35, .blk b_q [rv (.map (some v_q_0)), rv (.map (some v_q_1))] 59, .map v_q_0 (menc m_TApiItem r2.2.fItems), .map v_q_1 (menc m_TApiItem r2.2.fChanged), .blk b1 (eTApiItem r9) 35]) rfl ?_
  refine wa rfl ?_
  refine wl_x ?_
  refine wc_ret ?_
  obtain rfl := some_e h10
  exact wk_ret (r_2 Tryz.results17 (rv_ca (i := 4) Tryz.isAgg35 Tryz.sizeOf35 rfl rfl rfl) (rv_t rfl)) (sS (sC (sC (sC (sS sN))))) ⟨rfl, rfl⟩

theorem kLen_w (b_q : Nat) (v_q_0 : Nat) (v_q_1 : Nat) (q : TKvStore) (r : Int × TKvStore) (h : kLen q = some r) : Fn Tryz.prog GE 15 [rv (.pointer (some ⟨b_q, 0, none⟩))] [.blk b_q [rv (.map (some v_q_0)), rv (.map (some v_q_1))] 59, .map v_q_0 (menc m_TApiItem q.fItems), .map v_q_1 (menc m_TApiItem q.fChanged)] (fun R H => R = rI .i64 r.1 ∧ H = [.blk b_q [rv (.map (some v_q_0)), rv (.map (some v_q_1))] 59, .map v_q_0 (menc m_TApiItem r.2.fItems), .map v_q_1 (menc m_TApiItem r.2.fChanged)]) := by
 refine enter (n := 11) Tryz.func15 rfl Tryz.ntmps15 rfl (fun w Z => ?_)
 refine wc_as (l' := [(0, rv (.pointer (some ⟨b_q, 0, none⟩)))]) (H' := [.blk b_q [rv (.map (some v_q_0)), rv (.map (some v_q_1))] 59, .map v_q_0 (menc m_TApiItem q.fItems), .map v_q_1 (menc m_TApiItem q.fChanged)]) rfl rfl ?_
 unfold kLen at h
 refine wc_sr ?_
 refine wv (r := rI .i64 0) (o_assign rfl) ?_
 refine wl_x ?_
 refine wc_seq ?_
 refine wc_sr ?_
 refine wm rfl ?_
 obtain ⟨r1, e3, h2⟩ := obn_e h
 refine wcl (Hr := []) Tryz.call34 (kMade_w b_q v_q_0 v_q_1 q r1 e3) rfl (List.Perm.refl _) rfl ?_
 rintro _ _ ⟨rfl, rfl⟩
 refine wv (o_not rfl) ?_
 refine wl_x ?_
 refine wc_cond (b := !r1.1) rfl (fun c4 => ?_) (fun c4 => ?_)
 ·have h5 := cnd_t c4 h2
  refine wc_sr ?_
  refine wv (r := rI .i64 0) (o_assign rfl) ?_
  refine wl_x ?_
  refine wc_ret ?_
  refine wk_then_ret ?_
  obtain rfl := some_e h5
  exact wk_ret (r_1 Tryz.results15 (rv_t rfl)) (sC (sC (sC sN))) ⟨rfl, rfl⟩
 ·have h6 := cnd_f c4 h2
  refine wc_skip ?_
  refine wk_x ?_
  refine wc_sr ?_
  refine wm rfl ?_
  refine wv (o_nilcheck rfl) ?_
  refine wv (o_fieldAddr Tryz.underlying59 rfl Tryz.sizeOf57 rfl rfl) ?_
  refine wv (o_load (i := 0) Tryz.isAgg57 rfl rfl rfl) ?_
  refine wv (r := rI .i64 (r1.2.fItems.length : Int)) (o_mlen (N := r1.2.fItems.length) (i := 1) Tryz.underlying57 rfl rfl (menc_length _ _)) ?_
  refine wa rfl ?_
  refine wl_x ?_
  refine wc_ret ?_
  obtain rfl := some_e h6
  exact wk_ret (r_1 Tryz.results15 (rv_t rfl)) (sC (sC (sC sN))) ⟨rfl, rfl⟩

theorem kScan_w (F : Nat) (b_q : Nat) (v_q_0 : Nat) (v_q_1 : Nat) (q : TKvStore) (pre : Str) (r : (List TApiItem) × TKvStore) (h : kScan F q pre = some r) : Fn Tryz.prog GE 20 [rv (.pointer (some ⟨b_q, 0, none⟩)), rS pre] [.blk b_q [rv (.map (some v_q_0)), rv (.map (some v_q_1))] 59, .map v_q_0 (menc m_TApiItem q.fItems), .map v_q_1 (menc m_TApiItem q.fChanged)] (fun R H => R = rSl 3 (List.map eTApiItem r.1) ∧ H = [.blk b_q [rv (.map (some v_q_0)), rv (.map (some v_q_1))] 59, .map v_q_0 (menc m_TApiItem r.2.fItems), .map v_q_1 (menc m_TApiItem r.2.fChanged)]) := by
 refine enter (n := 37) Tryz.func20 rfl Tryz.ntmps20 rfl (fun w Z => ?_)
 refine wc_as (l' := [(0, rv (.pointer (some ⟨b_q, 0, none⟩))), (1, rS pre)]) (H' := [.blk b_q [rv (.map (some v_q_0)), rv (.map (some v_q_1))] 59, .map v_q_0 (menc m_TApiItem q.fItems), .map v_q_1 (menc m_TApiItem q.fChanged)]) rfl rfl ?_
 unfold kScan at h
 refine wc_sr ?_
 refine wv (r := rv (.slice none 0 0)) (o_assign rfl) ?_
 refine wl_x ?_
 refine wc_seq ?_
 refine wc_sr ?_
 refine wm rfl ?_
 obtain ⟨r1, e3, h2⟩ := obn_e h
 refine wcl (Hr := []) Tryz.call34 (kMade_w b_q v_q_0 v_q_1 q r1 e3) rfl (List.Perm.refl _) rfl ?_
 rintro _ _ ⟨rfl, rfl⟩
 refine wv (o_not rfl) ?_
 refine wl_x ?_
 refine wc_cond (b := !r1.1) rfl (fun c4 => ?_) (fun c4 => ?_)
 ·have h5 := cnd_t c4 h2
  refine wc_sr ?_
  refine wv (r := rv (.slice none 0 0)) (o_assign rfl) ?_
  refine wl_x ?_
  refine wc_ret ?_
  refine wk_then_ret ?_
  refine WK.up (d := 4) (r := rSl 3 (List.map eTApiItem ([] : List TApiItem))) rfl (Up.le (Rle.nil _)) ?_
  obtain rfl := some_e h5
  exact wk_ret (r_1 Tryz.results20 (rv_t rfl)) (sC (sC (sC sN))) ⟨rfl, rfl⟩
 ·have h6 := cnd_f c4 h2
  refine wc_skip ?_
  refine wk_x ?_
  refine wc_sr ?_
  refine wv (r := rv (.slice none 0 0)) (o_assign rfl) ?_
  refine wl_x ?_
  refine wc_seq ?_
  refine wc_sr ?_
  refine wm rfl ?_
  refine wv (o_nilcheck rfl) ?_
  refine wv (o_fieldAddr Tryz.underlying59 rfl Tryz.sizeOf57 rfl rfl) ?_
  refine wv (o_load (i := 0) Tryz.isAgg57 rfl rfl rfl) ?_
  refine w_call (rs := [rv (.map (some v_q_0))]) (Hin := []) (Hr := [.blk b_q [rv (.map (some v_q_0)), rv (.map (some v_q_1))] 59, .map v_q_0 (menc m_TApiItem r1.2.fItems), .map v_q_1 (menc m_TApiItem r1.2.fChanged)]) Tryz.call43 rfl (List.Perm.refl _) (mkeys_43_q v_q_0) rfl ?_
  rintro _ _ ⟨b7, rfl, rfl⟩
  obtain ⟨g8, h9⟩ := chk_e h6
  refine w_call (rs := [rv (.func (.func 63) #[] #[(.pointer (some ⟨b7, 0, none⟩))])]) (Hin := [.blk b7 [rv (.map (some v_q_0))] 57, .map v_q_0 (menc m_TApiItem r1.2.fItems)]) (Hr := [.blk b_q [rv (.map (some v_q_0)), rv (.map (some v_q_1))] 59, .map v_q_1 (menc m_TApiItem r1.2.fChanged)]) Tryz.call42 rfl ((perm_front (i := 0) rfl).trans (List.Perm.cons _ ((perm_front (i := 1) rfl).trans (List.Perm.cons _ (List.Perm.refl _))))) (sorted_43_q m_TApiItem r1.2.fItems b7 v_q_0 g8) rfl ?_
  rintro _ _ ⟨v10, rfl, rfl⟩
  refine wv (o_len_wt (ys := mkeys r1.2.fItems) (enc := eS) (i := 0) Tryz.underlying51 rfl rfl) ?_
  refine wv (r := rI .i64 0) (o_move rfl) ?_
  refine wl_x ?_
  refine wc_block ?_
  refine WC.nilrow (e := 35) (sz := 3) ?_
  refine wc_perm (H2 := [.row v10 9 1 (List.map eS (mkeys r1.2.fItems)), .map v_q_0 (menc m_TApiItem r1.2.fItems), .blk b_q [rv (.map (some v_q_0)), rv (.map (some v_q_1))] 59, .map v_q_1 (menc m_TApiItem r1.2.fChanged), .row (.slice none 0 0                                   ) 35 3 (List.map eTApiItem ([] : List TApiItem)), .blk b7 [rv (.map (some v_q_0))] 57]) ((perm_front (i := 1) rfl).trans (List.Perm.cons _ ((perm_front (i := 2) rfl).trans (List.Perm.cons _ ((perm_front (i := 2) rfl).trans (List.Perm.cons _ ((perm_front (i := 2) rfl).trans (List.Perm.cons _ (List.Perm.refl _))))))))) ?_
  obtain ⟨o167, eo168, hK169⟩ := obn_e h9
  refine wc_loop2 (S := Nat × ((List TApiItem) × Int) × (Value)) (V := ((List TApiItem)) × (Value)) 0 (fun σ => lop (fun σ => kScan_b1 pre r1 σ.1 σ.2) σ.1 σ.2.1 = some o167) (fun σ => [(0, rv (.pointer (some ⟨b_q, 0, none⟩))), (1, rS pre), (4, rv (.slice none 0 0)), (5, rv σ.2.2), (16, rv v10), (17, rI .i64 ((mkeys r1.2.fItems).length : Int)), (18, rI .i64 σ.2.1.2)]) (fun σ => [.row v10 9 1 (List.map eS (mkeys r1.2.fItems)), .map v_q_0 (menc m_TApiItem r1.2.fItems), .blk b_q [rv (.map (some v_q_0)), rv (.map (some v_q_1))] 59, .map v_q_1 (menc m_TApiItem r1.2.fChanged), .row σ.2.2 35 3 (List.map eTApiItem σ.2.1.1)]) (fun σ => σ.1) (F, (([] : List TApiItem), 0), (.slice none 0 0                                   )) eo168 (Sub.c rfl (Sub.c rfl (Sub.c5 rfl rfl rfl rfl rfl Sub.nil))) (sC (sC (sC (sC (sC (sS sN)))))) (fun σ => kScan_k1 r1 σ.1 = some r) (fun σ => [(4, rv (.slice none 0 0)), (5, rv σ.2)]) (fun σ => [.map v_q_0 (menc m_TApiItem r1.2.fItems), .blk b_q [rv (.map (some v_q_0)), rv (.map (some v_q_1))] 59, .map v_q_1 (menc m_TApiItem r1.2.fChanged), .row σ.2 35 3 (List.map eTApiItem σ.1)]) ?_ ?_
  ·rintro ⟨n175, ⟨x112, x114⟩, v113⟩ hi173
   refine wc_as (l' := [(0, rv (.pointer (some ⟨b_q, 0, none⟩))), (1, rS pre), (4, rv (.slice none 0 0)), (5, rv v113), (16, rv v10), (17, rI .i64 ((mkeys r1.2.fItems).length : Int)), (18, rI .i64 x114)]) (H' := [.row v10 9 1 (List.map eS (mkeys r1.2.fItems)), .map v_q_0 (menc m_TApiItem r1.2.fItems), .blk b_q [rv (.map (some v_q_0)), rv (.map (some v_q_1))] 59, .map v_q_1 (menc m_TApiItem r1.2.fChanged), .row v113 35 3 (List.map eTApiItem x112)]) rfl rfl ?_
   obtain ⟨m172, rfl, t170, h174, ht171⟩ := lop_e hi173
   replace h174 : kScan_b1 pre r1 x112 x114 = some t170 := h174
   unfold kScan_b1 at h174
   refine wc_sr ?_
   refine wv (o_lt rfl rfl) ?_
   refine wl_x ?_
   refine wc_seq ?_
   refine wc_cond (b := decide (x114 < ((mkeys r1.2.fItems).length : Int))) rfl (fun c176 => ?_) (fun c176 => ?_)
   ·have h177 := cnd_t c176 h174
    refine wc_skip ?_
    refine wk_x ?_
    refine wc_seq_cut (S := ((List TApiItem) × Bool) × (Value)) (fun σ => kScan_j2 x114 σ.1.1 σ.1.2 = some t170) (fun σ => [(0, rv (.pointer (some ⟨b_q, 0, none⟩))), (1, rS pre), (4, rv (.slice none 0 0)), (5, rv σ.2), (7, rS (at' (mkeys r1.2.fItems) x114)), (16, rv v10), (17, rI .i64 ((mkeys r1.2.fItems).length : Int)), (18, rI .i64 x114), (19, rB (decide (x114 < ((mkeys r1.2.fItems).length : Int)))), (21, rS (at' (mkeys r1.2.fItems) x114)), (22, rS (at' (mkeys r1.2.fItems) x114)), (23, rS pre), (24, rB σ.1.2)]) (fun σ => [.row v10 9 1 (List.map eS (mkeys r1.2.fItems)), .map v_q_0 (menc m_TApiItem r1.2.fItems), .blk b_q [rv (.map (some v_q_0)), rv (.map (some v_q_1))] 59, .map v_q_1 (menc m_TApiItem r1.2.fChanged), .row σ.2 35 3 (List.map eTApiItem σ.1.1)]) ?_ ?_
    ·refine wc_block ?_
     refine wc_sr ?_
     obtain ⟨g207, h208⟩ := chk_e h177
     refine wv (r := rv (elp 1 v10 (Int.toNat x114) 0)) (o_ix_w (i := 0) Tryz.underlying51 Tryz.sizeOf9 rfl rfl rfl (len_map g207)) ?_
     refine wv (r := rS (at' (mkeys r1.2.fItems) x114)) (o_ld_w (enc := eS) (ys := mkeys r1.2.fItems) (i := 0) (j := x114) Tryz.isAgg9 rfl rfl g207 rfl) ?_
     refine wa rfl ?_
     refine wl_y ?_
     refine wm rfl ?_
     refine wm rfl ?_
     obtain ⟨r209, e211, h210⟩ := obn_e h208
     refine wc0 Tryz.call44 (hasPrefix_w (at' (mkeys r1.2.fItems) x114) pre r209 e211) rfl ?_
     refine wl_x ?_
     refine wc_cond (b := r209) rfl (fun c212 => ?_) (fun c212 => ?_)
     ·have h213 := cnd_t c212 h210
      refine wc_region ?_
      refine wm rfl ?_
      refine wm rfl ?_
      refine wv (o_nilcheck rfl) ?_
      refine wv (o_fieldAddr Tryz.underlying59 rfl Tryz.sizeOf57 rfl rfl) ?_
      refine wv (o_load (i := 2) Tryz.isAgg57 rfl rfl rfl) ?_
      refine wm rfl ?_
      refine wv (r := rAgg (eTApiItem (mval r1.2.fItems (at' (mkeys r1.2.fItems) x114) (TApiItem.mk ([] : Str) ([] : (List TApiCell)) 0)))) (o_mget (enc := m_TApiItem) (xs := r1.2.fItems) (z := TApiItem.mk ([] : Str) ([] : (List TApiCell)) 0) (i := 1) Tryz.underlying57 Tryz.underlying9 Tryz.zeroValue35 m_TApiItem_z rfl rfl rfl) ?_
      obtain ⟨r214, e216, h215⟩ := obn_e h213
      refine wc0 Tryz.call39 (kOwn_w (mval r1.2.fItems (at' (mkeys r1.2.fItems) x114) (TApiItem.mk ([] : Str) ([] : (List TApiCell)) 0)) r214 e216) rfl ?_
      refine w_buildSlice (ys := ([r214] : List TApiItem)) (enc := eTApiItem) (css := [[rS r214.fKey, rSl 4 (List.map eTApiCell r214.fValue), rI .i64 r214.fVersion]]) (xs := [.tmp 32]) Tryz.underlying39 Tryz.sizeOf35 Tryz.zeroValue35 rfl rfl rfl ⟨Cel.agg ⟨Up.refl _, Up.refl _, Up.refl _, trivial⟩, trivial⟩ rfl eTApiItem_len rfl rfl rfl (fun b217 => ?_)
      obtain ⟨g219, h220⟩ := chk_e h215
      obtain ⟨inf, hinf⟩ := info35
      refine w_append (xs := x112) (ys := ([r214] : List TApiItem)) (enc := eTApiItem) (i := 5) Tryz.underlying39 hinf.1 hinf.2.1 hinf.2.2.1 hinf.2.2.2 rfl rfl rfl rfl rfl (Src.w (i := 0) rfl rfl) eTApiItem_len eTApiItem_one g219 rfl (fun v218 => ?_)
      refine wa rfl ?_
      refine wl_nil ?_
      refine wk_in_norm ?_
      refine wk_perm (H2 := [.row v10 9 1 (List.map eS (mkeys r1.2.fItems)), .map v_q_0 (menc m_TApiItem r1.2.fItems), .blk b_q [rv (.map (some v_q_0)), rv (.map (some v_q_1))] 59, .map v_q_1 (menc m_TApiItem r1.2.fChanged), .row v218 35 3 (List.map eTApiItem (x112 ++ ([r214] : List TApiItem))), .row (.slice (some ⟨b217, 0, none⟩) 1 1) 35 3 (List.map eTApiItem ([r214] : List TApiItem))]) ((perm_front (i := 2) rfl).trans (List.Perm.cons _ ((perm_front (i := 2) rfl).trans (List.Perm.cons _ ((perm_front (i := 2) rfl).trans (List.Perm.cons _ ((perm_front (i := 2) rfl).trans (List.Perm.cons _ (List.Perm.refl _))))))))) ?_
      exact wk_then (wk_some ((x112 ++ ([r214] : List TApiItem), r209), v218) h220 (Sub.c rfl (Sub.c rfl (Sub.c rfl (Sub.c5 rfl rfl rfl rfl rfl (Sub.c5 rfl rfl rfl rfl rfl Sub.nil))))) (sC (sC (sC (sC (sC (sS sN)))))))
     ·have h221 := cnd_f c212 h210
      refine wc_skip ?_
      refine wk_in_norm ?_
      exact wk_then (wk_some ((x112, r209), v113) h221 (Sub.c rfl (Sub.c rfl (Sub.c rfl (Sub.c5 rfl rfl rfl rfl rfl (Sub.c5 rfl rfl rfl rfl rfl Sub.nil))))) (sC (sC (sC (sC (sC sN))))))
    ·rintro ⟨⟨x204, x206⟩, v205⟩ h222
     refine wc_as (l' := [(0, rv (.pointer (some ⟨b_q, 0, none⟩))), (1, rS pre), (4, rv (.slice none 0 0)), (5, rv v205), (7, rS (at' (mkeys r1.2.fItems) x114)), (16, rv v10), (17, rI .i64 ((mkeys r1.2.fItems).length : Int)), (18, rI .i64 x114), (19, rB (decide (x114 < ((mkeys r1.2.fItems).length : Int)))), (21, rS (at' (mkeys r1.2.fItems) x114)), (22, rS (at' (mkeys r1.2.fItems) x114)), (23, rS pre), (24, rB x206)]) (H' := [.row v10 9 1 (List.map eS (mkeys r1.2.fItems)), .map v_q_0 (menc m_TApiItem r1.2.fItems), .blk b_q [rv (.map (some v_q_0)), rv (.map (some v_q_1))] 59, .map v_q_1 (menc m_TApiItem r1.2.fChanged), .row v205 35 3 (List.map eTApiItem x204)]) rfl rfl ?_
     replace h222 : kScan_j2 x114 x204 x206 = some t170 := h222
     unfold kScan_j2 at h222
     refine wc_region ?_
     obtain ⟨g223, h224⟩ := chk_e h222
     refine wv (o_add rfl rfl g223) ?_
     refine wm rfl ?_
     refine wl_nil ?_
     have h225 := stp_next h224 ht171
     exact wk_then (wk_some (m172, (x204, x114 + 1), v205) ⟨h225, Nat.lt_succ_self _⟩ (Sub.c rfl (Sub.c rfl (Sub.c5 rfl rfl rfl rfl rfl Sub.nil))) (sC (sC (sC (sC (sC sN))))))
   ·have h226 := cnd_f c176 h174
    refine wc_exit ?_
    refine wk_then_exit ?_
    have h227 := stp_go h226 ht171 hK169
    exact wk_then_exit (wk_cut_hit (wk_some (x112, v113) h227 (Sub.c rfl (Sub.c rfl Sub.nil)) (sS (sC (sC (sC (sC sN)))))))
  ·rintro ⟨x165, v166⟩ h228
   refine wk_as (l' := [(4, rv (.slice none 0 0)), (5, rv v166)]) (H' := [.map v_q_0 (menc m_TApiItem r1.2.fItems), .blk b_q [rv (.map (some v_q_0)), rv (.map (some v_q_1))] 59, .map v_q_1 (menc m_TApiItem r1.2.fChanged), .row v166 35 3 (List.map eTApiItem x165)]) rfl rfl ?_
   replace h228 : kScan_k1 r1 x165 = some r := h228
   unfold kScan_k1 at h228
   refine wk_in_hit ?_
   refine wk_x ?_
   refine wc_sr ?_
   refine wm rfl ?_
   refine wa rfl ?_
   refine wl_x ?_
   refine wc_ret ?_
   refine WK.freeze (i := 3) rfl ?_
   refine WK.up (d := 4) (r := rSl 3 (List.map eTApiItem x165)) rfl (Up.fact (i := 0) rfl) ?_
   refine wk_perm (H2 := [.blk b_q [rv (.map (some v_q_0)), rv (.map (some v_q_1))] 59, .map v_q_0 (menc m_TApiItem r1.2.fItems), .map v_q_1 (menc m_TApiItem r1.2.fChanged), .fact v166 (rSl 3 (List.map eTApiItem x165))]) ((perm_front (i := 2) rfl).trans (List.Perm.cons _ ((perm_front (i := 1) rfl).trans (List.Perm.cons _ ((perm_front (i := 1) rfl).trans (List.Perm.cons _ (List.Perm.refl _))))))) ?_
   obtain rfl := some_e h228
   exact wk_ret (r_1 Tryz.results20 (rv_t rfl)) (sC (sC (sC (sS sN)))) ⟨rfl, rfl⟩

end Go.Proofs.YtjfnokmpfekniaaGreatDoor.Q

/-
 What functions compute, with checks: plain definitions, printed by a small program of ours (gq.py). No program in sight.
-/
namespace Go.Proofs.YtjfnokmpfekniaaGreatDoor
open Go
set_option linter.unusedVariables false
def lSmall_b2 (l : (List TApiChange)) (x253 : Int) (x476 : Int) : Option (Stp (Int) (Out (Stp (Int) (Out (Bool) (Unit))) (Int × Bool))) :=
 cnd (decide (x476 < (((at' l x253).fValue).length : Int))) (chk (inR x476 (((at' l x253).fValue).length : Int)) <| cnd (decide (5000 < (((at' ((at' l x253).fValue) x476).fStr).length : Int))) (some (.out (.ret (.out (.ret false))))) (chk (inK .i64 (x476 + 1)) <| some (.next (x476 + 1)))) (some (.out (.go (x476, decide (x476 < (((at' l x253).fValue).length : Int))))))

def lSmall_k2 (x253 : Int) (x487 : Int) (x488 : Bool) : Option (Stp (Int) (Out (Bool) (Unit))) :=
 chk (inK .i64 (x253 + 1)) <| some (.next (x253 + 1))

def lSmall_b1 (F : Nat) (l : (List TApiChange)) (x253 : Int) : Option (Stp (Int) (Out (Bool) (Unit))) :=
 cnd (decide (x253 < (l.length : Int))) (chk (inR x253 (l.length : Int)) <| cnd (((decide (300 < (((at' l x253).fKey).length : Int))) || (decide (300 < (((at' l x253).fValue).length : Int))))) (some (.out (.ret false))) (obn (lop (fun σ => lSmall_b2 l x253 σ) F 0) (oute fun ν => lSmall_k2 x253 ν.1 ν.2))) (some (.out (.go ())))

def lSmall_k1  : Option (Bool) :=
 some true

def lSmall (F : Nat) (l : (List TApiChange)) : Option (Bool) :=
 cnd (decide (300 < (l.length : Int))) (some false) (obn (lop (fun σ => lSmall_b1 F l σ) F 0) (oute fun ν => lSmall_k1 ))

def lFew_b1 (F : Nat) (l : (List (List TApiChange))) (x29 : Int) : Option (Stp (Int) (Out (Bool) (Unit))) :=
 cnd (decide (x29 < (l.length : Int))) (chk (inR x29 (l.length : Int)) <| obn (lSmall F (at' l x29)) fun r56 => cnd (!r56) (some (.out (.ret false))) (chk (inK .i64 (x29 + 1)) <| some (.next (x29 + 1)))) (some (.out (.go ())))

def lFew_k1  : Option (Bool) :=
 some true

def lFew (F : Nat) (l : (List (List TApiChange))) : Option (Bool) :=
 cnd (decide (30 < (l.length : Int))) (some false) (obn (lop (fun σ => lFew_b1 F l σ) F 0) (oute fun ν => lFew_k1 ))

def lPut (n : Int) (version : Int) : Option (TApiChange) :=
 some (TApiChange.mk ([107] : Str) false ([(TApiCell.mk 3 n ([] : Str) 0)] : List TApiCell) version)

def fJoinN_b1  : Option (Stp (Unit) (Out (Str × Int) (Unit))) :=
 some (.out (.go ()))

def fJoinN_k1  : Option (Str × Int) :=
 some (([] : Str), 0)

def fJoinN (F : Nat)  : Option (Str × Int) :=
 obn (lop (fun σ => fJoinN_b1 ) F ()) (oute fun ν => fJoinN_k1 )

def kEncodeN_b1  : Option (Stp (Unit) (Out (Str × Int) (Unit))) :=
 some (.out (.go ()))

def kEncodeN_k1 (F : Nat) : Option (Str × Int) :=
 obn (fJoinN F) fun r18 => some (r18.1, r18.2)

def kEncodeN (F : Nat)  : Option (Str × Int) :=
 obn (kValid F ([] : List TApiChange)) fun r1 => cnd (!decide (r1 = 0)) (some (([] : Str), r1)) (obn (lop (fun σ => kEncodeN_b1 ) F ()) (oute fun ν => kEncodeN_k1 F ))

def lAwake_j2 (x112 : Bool) : Option (Bool) :=
 some x112

def lAwake_j1 (F : Nat) (x24 : Bool) (x25 : (List (Str × TApiItem))) (x26 : (List (Str × TApiItem))) : Option (Bool) :=
 cnd (x24) (some false) (obn (lPut 5 0) fun r47 => obn (kApply F (TKvStore.mk x25 x26) ([r47] : List TApiChange)) fun r51 => obn (lPut 5 0) fun r54 => obn (kApply F r51.2 ([r54] : List TApiChange)) fun r58 => obn (lPut 6 1) fun r61 => obn (kApply F r58.2 ([r61] : List TApiChange)) fun r65 => obn (kGet r65.2 ([107] : Str)) fun r68 => obn (kApply F r68.2.2 ([(TApiChange.mk ([107] : Str) true ([] : List TApiCell) 2)] : List TApiChange)) fun r73 => obn (kEncodeN F) fun r76 => cnd (decide (r51.1 = 0)) (cnd (decide (r58.1 = 19)) (cnd (decide (r65.1 = 0)) (cnd (r68.2.1) (cnd (decide (r68.1.fVersion = 2)) (cnd (decide (r73.1 = 0)) (obn (kLen r73.2) fun r125 => cnd (decide (r125.1 = 0)) (cnd (decide (r76.1 = ([] : Str))) (lAwake_j2 (decide (r76.2 = 0))) (lAwake_j2 false)) (lAwake_j2 false)) (lAwake_j2 false)) (lAwake_j2 false)) (lAwake_j2 false)) (lAwake_j2 false)) (lAwake_j2 false)) (lAwake_j2 false))

def lAwake (F : Nat)  : Option (Bool) :=
 obn (kNew) fun r1 => obn (lPut 1 0) fun r27 => obn (lPut 2 0) fun r30 => obn (kApply F r1 ([r27, r30] : List TApiChange)) fun r34 => cnd (!decide (r34.1 = 19)) (lAwake_j1 F true r34.2.fItems r34.2.fChanged) (obn (kLen r34.2) fun r40 => lAwake_j1 F (!decide (r40.1 = 0)) r40.2.fItems r40.2.fChanged)

end Go.Proofs.YtjfnokmpfekniaaGreatDoor

/-
  Walks, printed by a small program of ours (gq.py).
-/
namespace Go.Proofs.YtjfnokmpfekniaaGreatDoor.Q
open Go Go.RowKit
set_option linter.unusedVariables false
set_option linter.unusedSimpArgs false
set_option maxRecDepth 100000
set_option maxHeartbeats 4000000
@[reducible] def eL_TApiChange (x : (List TApiChange)) : List Rp := [rSl 4 (List.map eTApiChange x)]
theorem eL_TApiChange_len (x : (List TApiChange)) : (eL_TApiChange x).length = 1 := rfl
theorem built50 (parts : List (Nat × Value)) : Tryz.prog.built 50 parts = Instr.fill (fun i => (#[(0, 1), (1, 1), (2, 1), (3, 1)] : Array (Nat × Nat))[i]?) #[(.string ⟨#[]⟩), (.bool false), ((.slice none 0 0)), (.int .i64 0)] parts := by kernel_rfl
theorem o_build50_0_1_3 {n : Nat} {c : Cx} {l : Fr} {H : List Ent} {d : Option Nat} {ty : TypeId} {pos : String} {af : Array Edge} {g : Option (Nat × Bool)} {x0 : Operand} {r0 : Rp} (h0 : ev l x0 = some r0) (u0 : r0.one = true) {x1 : Operand} {r1 : Rp} (h1 : ev l x1 = some r1) (u1 : r1.one = true) {x3 : Operand} {r3 : Rp} (h3 : ev l x3 = some r3) (u3 : r3.one = true) : ORun Tryz.prog n c l H { dst := d, op := .build 50 #[(0, x0), (1, x1), (3, x3)], type := ty, pos := pos, after := af, guard := g } (rAgg [r0, r1, rv (.slice none 0 0), r3]) := fun a w Z ha _ => by
  have p0 := ha.ev h0
  have c0 := cells_one (r0.hone u0 Z _ p0)
  have p1 := ha.ev h1
  have c1 := cells_one (r1.hone u1 Z _ p1)
  have p3 := ha.ev h3
  have c3 := cells_one (r3.hone u3 Z _ p3)
  have hb : Tryz.prog.built 50 [(0, a.eval x0), (1, a.eval x1), (3, a.eval x3)] = some #[a.eval x0, a.eval x1, ((.slice none 0 0)), a.eval x3] := by
    rw [built50]
    generalize a.eval x0 = v0 at *
    generalize a.eval x1 = v1 at *
    generalize a.eval x3 = v3 at *
    simp [Instr.fill, c0, c1, c3]
  refine ⟨.agg #[a.eval x0, a.eval x1, ((.slice none 0 0)), a.eval x3], ⟨[a.eval x0, a.eval x1, ((.slice none 0 0)), a.eval x3], rfl, p0, p1, rfl, p3, trivial⟩, ?_⟩
  have := run_build w 50 #[(0, a.eval x0), (1, a.eval x1), (3, a.eval x3)] _ (by simpa using hb)
  simp [execOp, this]
theorem o_build50_0_2_3 {n : Nat} {c : Cx} {l : Fr} {H : List Ent} {d : Option Nat} {ty : TypeId} {pos : String} {af : Array Edge} {g : Option (Nat × Bool)} {x0 : Operand} {r0 : Rp} (h0 : ev l x0 = some r0) (u0 : r0.one = true) {x2 : Operand} {r2 : Rp} (h2 : ev l x2 = some r2) (u2 : r2.one = true) {x3 : Operand} {r3 : Rp} (h3 : ev l x3 = some r3) (u3 : r3.one = true) : ORun Tryz.prog n c l H { dst := d, op := .build 50 #[(0, x0), (2, x2), (3, x3)], type := ty, pos := pos, after := af, guard := g } (rAgg [r0, rB false, r2, r3]) := fun a w Z ha _ => by
  have p0 := ha.ev h0
  have c0 := cells_one (r0.hone u0 Z _ p0)
  have p2 := ha.ev h2
  have c2 := cells_one (r2.hone u2 Z _ p2)
  have p3 := ha.ev h3
  have c3 := cells_one (r3.hone u3 Z _ p3)
  have hb : Tryz.prog.built 50 [(0, a.eval x0), (2, a.eval x2), (3, a.eval x3)] = some #[a.eval x0, (.bool false), a.eval x2, a.eval x3] := by
    rw [built50]
    generalize a.eval x0 = v0 at *
    generalize a.eval x2 = v2 at *
    generalize a.eval x3 = v3 at *
    simp [Instr.fill, c0, c2, c3]
  refine ⟨.agg #[a.eval x0, (.bool false), a.eval x2, a.eval x3], ⟨[a.eval x0, (.bool false), a.eval x2, a.eval x3], rfl, p0, rfl, p2, p3, trivial⟩, ?_⟩
  have := run_build w 50 #[(0, a.eval x0), (2, a.eval x2), (3, a.eval x3)] _ (by simpa using hb)
  simp [execOp, this]
theorem built78 (parts : List (Nat × Value)) : Tryz.prog.built 78 parts = Instr.fill (fun i => (#[(0, 1), (1, 1), (2, 1), (3, 1)] : Array (Nat × Nat))[i]?) #[(.int .i64 0), (.int .i64 0), (.string ⟨#[]⟩), (.int .i64 0)] parts := by kernel_rfl
theorem o_build78_0_1 {n : Nat} {c : Cx} {l : Fr} {H : List Ent} {d : Option Nat} {ty : TypeId} {pos : String} {af : Array Edge} {g : Option (Nat × Bool)} {x0 : Operand} {r0 : Rp} (h0 : ev l x0 = some r0) (u0 : r0.one = true) {x1 : Operand} {r1 : Rp} (h1 : ev l x1 = some r1) (u1 : r1.one = true) : ORun Tryz.prog n c l H { dst := d, op := .build 78 #[(0, x0), (1, x1)], type := ty, pos := pos, after := af, guard := g } (rAgg [r0, r1, rS ([] : Str), rI .i64 0]) := fun a w Z ha _ => by
  have p0 := ha.ev h0
  have c0 := cells_one (r0.hone u0 Z _ p0)
  have p1 := ha.ev h1
  have c1 := cells_one (r1.hone u1 Z _ p1)
  have hb : Tryz.prog.built 78 [(0, a.eval x0), (1, a.eval x1)] = some #[a.eval x0, a.eval x1, (.string ⟨#[]⟩), (.int .i64 0)] := by
    rw [built78]
    generalize a.eval x0 = v0 at *
    generalize a.eval x1 = v1 at *
    simp [Instr.fill, c0, c1]
  refine ⟨.agg #[a.eval x0, a.eval x1, (.string ⟨#[]⟩), (.int .i64 0)], ⟨[a.eval x0, a.eval x1, (.string ⟨#[]⟩), (.int .i64 0)], rfl, p0, p1, rfl, rfl, trivial⟩, ?_⟩
  have := run_build w 78 #[(0, a.eval x0), (1, a.eval x1)] _ (by simpa using hb)
  simp [execOp, this]
theorem lSmall_w (F : Nat) (l : (List TApiChange)) (r : Bool) (h : lSmall F l = some r) : Fn Tryz.prog GE 22 [rSl 4 (List.map eTApiChange l)] [] (fun R H => R = rB r ∧ H = []) := by
 refine enter (n := 51) Tryz.func22 rfl Tryz.ntmps22 rfl (fun w Z => ?_)
 refine wc_as (l' := [(0, rSl 4 (List.map eTApiChange l))]) (H' := []) rfl rfl ?_
 unfold lSmall at h
 refine wc_sr ?_
 refine wv (r := rB false) (o_assign rfl) ?_
 refine wl_x ?_
 refine wc_seq ?_
 refine wc_sr ?_
 refine wm rfl ?_
 refine wv (o_len_zt (ys := l) (enc := eTApiChange) Tryz.underlying31 rfl) ?_
 refine wv (o_gt rfl rfl) ?_
 refine wl_x ?_
 refine wc_cond (b := decide (300 < (l.length : Int))) rfl (fun c1 => ?_) (fun c1 => ?_)
 ·have h2 := cnd_t c1 h
  refine wc_sr ?_
  refine wv (r := rB false) (o_assign rfl) ?_
  refine wl_x ?_
  refine wc_ret ?_
  refine wk_then_ret ?_
  obtain rfl := some_e h2
  exact wk_ret (r_1 Tryz.results22 (rv_t rfl)) sN ⟨rfl, rfl⟩
 ·have h3 := cnd_f c1 h
  refine wc_skip ?_
  refine wk_x ?_
  refine wc_seq ?_
  refine wc_sr ?_
  refine wm rfl ?_
  refine wv (o_len_zt (ys := l) (enc := eTApiChange) Tryz.underlying31 rfl) ?_
  refine wv (r := rI .i64 0) (o_move rfl) ?_
  refine wl_x ?_
  refine wc_block ?_
  obtain ⟨o379, eo380, hK381⟩ := obn_e h3
  refine wc_loop2 (S := Nat × (Int) × (Unit)) (V := (Unit) × (Unit)) 0 (fun σ => lop (fun σ => lSmall_b1 F l σ) σ.1 σ.2.1 = some o379) (fun σ => [(0, rSl 4 (List.map eTApiChange l)), (9, rI .i64 (l.length : Int)), (10, rI .i64 σ.2.1)]) (fun σ => []) (fun σ => σ.1) (F, 0, ()) eo380 (Sub.c rfl (Sub.c rfl (Sub.c rfl Sub.nil))) sN (fun σ => lSmall_k1  = some r) (fun σ => []) (fun σ => []) ?_ ?_
  ·rintro ⟨n387, x253, ⟨⟩⟩ hi385
   refine wc_as (l' := [(0, rSl 4 (List.map eTApiChange l)), (9, rI .i64 (l.length : Int)), (10, rI .i64 x253)]) (H' := []) rfl rfl ?_
   obtain ⟨m384, rfl, t382, h386, ht383⟩ := lop_e hi385
   replace h386 : lSmall_b1 F l x253 = some t382 := h386
   unfold lSmall_b1 at h386
   refine wc_sr ?_
   refine wv (o_lt rfl rfl) ?_
   refine wl_x ?_
   refine wc_seq ?_
   refine wc_cond (b := decide (x253 < (l.length : Int))) rfl (fun c388 => ?_) (fun c388 => ?_)
   ·have h389 := cnd_t c388 h386
    refine wc_skip ?_
    refine wk_x ?_
    refine wc_seq ?_
    refine wc_block ?_
    refine wc_sr ?_
    refine wm rfl ?_
    refine wa rfl ?_
    refine wl_x ?_
    refine wc_seq ?_
    obtain ⟨g450, h451⟩ := chk_e h389
    refine wc_seq_mid [(0, rSl 4 (List.map eTApiChange l)), (3, rI .i64 x253), (9, rI .i64 (l.length : Int)), (10, rI .i64 x253), (28, rB ((decide (300 < (((at' l x253).fKey).length : Int))) || (decide (300 < (((at' l x253).fValue).length : Int)))))] [] ?_ ?_
    ·refine wc_region ?_
     refine wm rfl ?_
     refine wm rfl ?_
     refine wv (o_ix_z (enc := eTApiChange) (ys := l) Tryz.underlying31 Tryz.sizeOf50 rfl rfl g450) ?_
     refine wv (o_fieldAddr_z Tryz.underlying50 rfl Tryz.sizeOf9 rfl rfl) ?_
     refine wv (o_load_z Tryz.isAgg9 rfl rfl) ?_
     refine wv (o_len_s Tryz.underlying9 rfl) ?_
     refine wv (o_gt rfl rfl) ?_
     refine wm rfl ?_
     refine bsplit (decide (300 < (((at' l x253).fKey).length : Int))) (fun c452 => ?_) (fun c452 => ?_)
     ·refine wf c452 ?_
      refine wf c452 ?_
      refine wf c452 ?_
      refine wf c452 ?_
      refine wf c452 ?_
      refine wf c452 ?_
      refine wf c452 ?_
      refine wv (r := rB true) (o_pick_t (b := decide (300 < (((at' l x253).fKey).length : Int))) rfl c452 rfl) ?_
      refine wl_nil ?_
      exact wtc c452
     ·refine wo c452 ?_
      refine wm rfl ?_
      refine wo c452 ?_
      refine wm rfl ?_
      refine wo c452 ?_
      refine wv (o_ix_z (enc := eTApiChange) (ys := l) Tryz.underlying31 Tryz.sizeOf50 rfl rfl g450) ?_
      refine wo c452 ?_
      refine wv (o_fieldAddr_z Tryz.underlying50 rfl Tryz.sizeOf33 rfl rfl) ?_
      refine wo c452 ?_
      refine wv (o_load_z Tryz.isAgg33 rfl rfl) ?_
      refine wo c452 ?_
      refine wv (o_len_zt (ys := (at' l x253).fValue) (enc := eTApiCell) Tryz.underlying33 rfl) ?_
      refine wo c452 ?_
      refine wv (o_gt rfl rfl) ?_
      refine wpf rfl c452 rfl ?_
      refine wl_nil ?_
      exact wtc c452
    refine wc_cond (b := ((decide (300 < (((at' l x253).fKey).length : Int))) || (decide (300 < (((at' l x253).fValue).length : Int))))) rfl (fun c453 => ?_) (fun c453 => ?_)
    ·have h454 := cnd_t c453 h451
     refine wc_sr ?_
     refine wv (r := rB false) (o_assign rfl) ?_
     refine wl_x ?_
     refine wc_ret ?_
     refine wk_then_ret ?_
     refine wk_in_ret ?_
     refine wk_then_ret ?_
     refine wk_then_ret ?_
     refine wk_cut_ret ?_
     have h455 := stp_ret h454 ht383 hK381
     refine wk_in_ret ?_
     refine wk_then_ret ?_
     obtain rfl := some_e h455
     exact wk_ret (r_1 Tryz.results22 (rv_t rfl)) sN ⟨rfl, rfl⟩
    ·have h456 := cnd_f c453 h451
     refine wc_skip ?_
     refine wk_x ?_
     refine wc_sr ?_
     refine wm rfl ?_
     refine wm rfl ?_
     refine wv (o_ix_z (enc := eTApiChange) (ys := l) Tryz.underlying31 Tryz.sizeOf50 rfl rfl g450) ?_
     refine wv (o_fieldAddr_z Tryz.underlying50 rfl Tryz.sizeOf33 rfl rfl) ?_
     refine wv (o_load_z Tryz.isAgg33 rfl rfl) ?_
     refine wv (o_len_zt (ys := (at' l x253).fValue) (enc := eTApiCell) Tryz.underlying33 rfl) ?_
     refine wv (r := rI .i64 0) (o_move rfl) ?_
     refine wl_x ?_
     refine wc_block ?_
     obtain ⟨o489, eo490, hK491⟩ := obn_e h456
     refine wc_loop2 (S := Nat × (Int) × (Unit)) (V := (Int × Bool) × (Unit)) 2 (fun σ => lop (fun σ => lSmall_b2 l x253 σ) σ.1 σ.2.1 = some o489) (fun σ => [(0, rSl 4 (List.map eTApiChange l)), (3, rI .i64 x253), (9, rI .i64 (l.length : Int)), (10, rI .i64 x253), (28, rB ((decide (300 < (((at' l x253).fKey).length : Int))) || (decide (300 < (((at' l x253).fValue).length : Int))))), (29, rSl 4 (List.map eTApiChange l)), (30, rI .i64 x253), (33, rSl 4 (List.map eTApiCell ((at' l x253).fValue))), (34, rI .i64 (((at' l x253).fValue).length : Int)), (35, rI .i64 σ.2.1)]) (fun σ => []) (fun σ => σ.1) (F, 0, ()) eo490 (Sub.c5 rfl rfl rfl rfl rfl (Sub.c5 rfl rfl rfl rfl rfl Sub.nil)) sN (fun σ => lSmall_k2 x253 σ.1.1 σ.1.2 = some t382) (fun σ => [(0, rSl 4 (List.map eTApiChange l)), (3, rI .i64 x253), (9, rI .i64 (l.length : Int)), (10, rI .i64 x253), (28, rB ((decide (300 < (((at' l x253).fKey).length : Int))) || (decide (300 < (((at' l x253).fValue).length : Int))))), (29, rSl 4 (List.map eTApiChange l)), (30, rI .i64 x253), (33, rSl 4 (List.map eTApiCell ((at' l x253).fValue))), (34, rI .i64 (((at' l x253).fValue).length : Int)), (35, rI .i64 σ.1.1), (36, rB σ.1.2)]) (fun σ => []) ?_ ?_
     ·rintro ⟨n497, x476, ⟨⟩⟩ hi495
      refine wc_as (l' := [(0, rSl 4 (List.map eTApiChange l)), (3, rI .i64 x253), (9, rI .i64 (l.length : Int)), (10, rI .i64 x253), (28, rB ((decide (300 < (((at' l x253).fKey).length : Int))) || (decide (300 < (((at' l x253).fValue).length : Int))))), (29, rSl 4 (List.map eTApiChange l)), (30, rI .i64 x253), (33, rSl 4 (List.map eTApiCell ((at' l x253).fValue))), (34, rI .i64 (((at' l x253).fValue).length : Int)), (35, rI .i64 x476)]) (H' := []) rfl rfl ?_
      obtain ⟨m494, rfl, t492, h496, ht493⟩ := lop_e hi495
      replace h496 : lSmall_b2 l x253 x476 = some t492 := h496
      unfold lSmall_b2 at h496
      refine wc_sr ?_
      refine wv (o_lt rfl rfl) ?_
      refine wl_x ?_
      refine wc_seq ?_
      refine wc_cond (b := decide (x476 < (((at' l x253).fValue).length : Int))) rfl (fun c498 => ?_) (fun c498 => ?_)
      ·have h499 := cnd_t c498 h496
       refine wc_skip ?_
       refine wk_x ?_
       refine wc_seq ?_
       refine wc_block ?_
       refine wc_sr ?_
       refine wm rfl ?_
       refine wa rfl ?_
       refine wl_y ?_
       refine wm rfl ?_
       refine wm rfl ?_
       refine wv (o_ix_z (enc := eTApiChange) (ys := l) Tryz.underlying31 Tryz.sizeOf50 rfl rfl g450) ?_
       refine wv (o_fieldAddr_z Tryz.underlying50 rfl Tryz.sizeOf33 rfl rfl) ?_
       refine wv (o_load_z Tryz.isAgg33 rfl rfl) ?_
       refine wm rfl ?_
       obtain ⟨g500, h501⟩ := chk_e h499
       refine wv (o_ix_z (enc := eTApiCell) (ys := (at' l x253).fValue) Tryz.underlying33 Tryz.sizeOf78 rfl rfl g500) ?_
       refine wv (o_fieldAddr_z Tryz.underlying78 rfl Tryz.sizeOf9 rfl rfl) ?_
       refine wv (o_load_z Tryz.isAgg9 rfl rfl) ?_
       refine wv (o_len_s Tryz.underlying9 rfl) ?_
       refine wv (o_gt rfl rfl) ?_
       refine wl_x ?_
       refine wc_cond (b := decide (5000 < (((at' ((at' l x253).fValue) x476).fStr).length : Int))) rfl (fun c502 => ?_) (fun c502 => ?_)
       ·have h503 := cnd_t c502 h501
        refine wc_sr ?_
        refine wv (r := rB false) (o_assign rfl) ?_
        refine wl_x ?_
        refine wc_ret ?_
        refine wk_in_ret ?_
        refine wk_then_ret ?_
        refine wk_then_ret ?_
        refine wk_cut_ret ?_
        have h504 := stp_ret h503 ht493 hK491
        refine wk_in_ret ?_
        refine wk_in_ret ?_
        refine wk_then_ret ?_
        refine wk_then_ret ?_
        refine wk_cut_ret ?_
        have h505 := stp_ret h504 ht383 hK381
        refine wk_in_ret ?_
        refine wk_then_ret ?_
        obtain rfl := some_e h505
        exact wk_ret (r_1 Tryz.results22 (rv_t rfl)) sN ⟨rfl, rfl⟩
       ·have h506 := cnd_f c502 h501
        refine wc_skip ?_
        refine wk_in_norm ?_
        refine wk_x ?_
        refine wc_region ?_
        obtain ⟨g507, h508⟩ := chk_e h506
        refine wv (o_add rfl rfl g507) ?_
        refine wm rfl ?_
        refine wl_nil ?_
        have h509 := stp_next h508 ht493
        exact wk_then (wk_some (m494, x476 + 1, ()) ⟨h509, Nat.lt_succ_self _⟩ (Sub.c5 rfl rfl rfl rfl rfl (Sub.c5 rfl rfl rfl rfl rfl Sub.nil)) sN)
      ·have h510 := cnd_f c498 h496
       refine wc_exit ?_
       refine wk_then_exit ?_
       have h511 := stp_go h510 ht493 hK491
       exact wk_then_exit (wk_cut_hit (wk_some ((x476, decide (x476 < (((at' l x253).fValue).length : Int))), ()) h511 (Sub.c rfl (Sub.c5 rfl rfl rfl rfl rfl (Sub.c5 rfl rfl rfl rfl rfl Sub.nil))) sN))
     ·rintro ⟨⟨x487, x488⟩, ⟨⟩⟩ h512
      refine wk_as (l' := [(0, rSl 4 (List.map eTApiChange l)), (3, rI .i64 x253), (9, rI .i64 (l.length : Int)), (10, rI .i64 x253), (28, rB ((decide (300 < (((at' l x253).fKey).length : Int))) || (decide (300 < (((at' l x253).fValue).length : Int))))), (29, rSl 4 (List.map eTApiChange l)), (30, rI .i64 x253), (33, rSl 4 (List.map eTApiCell ((at' l x253).fValue))), (34, rI .i64 (((at' l x253).fValue).length : Int)), (35, rI .i64 x487), (36, rB x488)]) (H' := []) rfl rfl ?_
      replace h512 : lSmall_k2 x253 x487 x488 = some t382 := h512
      unfold lSmall_k2 at h512
      refine wk_in_hit ?_
      refine wk_in_norm ?_
      refine wk_x ?_
      refine wc_region ?_
      obtain ⟨g513, h514⟩ := chk_e h512
      refine wv (o_add rfl rfl g513) ?_
      refine wm rfl ?_
      refine wl_nil ?_
      have h515 := stp_next h514 ht383
      exact wk_then (wk_some (m384, x253 + 1, ()) ⟨h515, Nat.lt_succ_self _⟩ (Sub.c rfl (Sub.c rfl (Sub.c rfl Sub.nil))) sN)
   ·have h516 := cnd_f c388 h386
    refine wc_exit ?_
    refine wk_then_exit ?_
    have h517 := stp_go h516 ht383 hK381
    exact wk_then_exit (wk_cut_hit (wk_some ((), ()) h517 Sub.nil sN))
  ·rintro ⟨⟨⟩, ⟨⟩⟩ h518
   refine wk_as (l' := []) (H' := []) rfl rfl ?_
   replace h518 : lSmall_k1  = some r := h518
   unfold lSmall_k1 at h518
   refine wk_in_hit ?_
   refine wk_x ?_
   refine wc_sr ?_
   refine wv (r := rB true) (o_assign rfl) ?_
   refine wl_x ?_
   refine wc_ret ?_
   obtain rfl := some_e h518
   exact wk_ret (r_1 Tryz.results22 (rv_t rfl)) sN ⟨rfl, rfl⟩

theorem lFew_w (F : Nat) (l : (List (List TApiChange))) (r : Bool) (h : lFew F l = some r) : Fn Tryz.prog GE 9 [rSl 1 (List.map eL_TApiChange l)] [] (fun R H => R = rB r ∧ H = []) := by
 refine enter (n := 19) Tryz.func9 rfl Tryz.ntmps9 rfl (fun w Z => ?_)
 refine wc_as (l' := [(0, rSl 1 (List.map eL_TApiChange l))]) (H' := []) rfl rfl ?_
 unfold lFew at h
 refine wc_sr ?_
 refine wv (r := rB false) (o_assign rfl) ?_
 refine wl_x ?_
 refine wc_seq ?_
 refine wc_sr ?_
 refine wm rfl ?_
 refine wv (o_len_zt (ys := l) (enc := eL_TApiChange) Tryz.underlying22 rfl) ?_
 refine wv (o_gt rfl rfl) ?_
 refine wl_x ?_
 refine wc_cond (b := decide (30 < (l.length : Int))) rfl (fun c1 => ?_) (fun c1 => ?_)
 ·have h2 := cnd_t c1 h
  refine wc_sr ?_
  refine wv (r := rB false) (o_assign rfl) ?_
  refine wl_x ?_
  refine wc_ret ?_
  refine wk_then_ret ?_
  obtain rfl := some_e h2
  exact wk_ret (r_1 Tryz.results9 (rv_t rfl)) sN ⟨rfl, rfl⟩
 ·have h3 := cnd_f c1 h
  refine wc_skip ?_
  refine wk_x ?_
  refine wc_seq ?_
  refine wc_sr ?_
  refine wm rfl ?_
  refine wv (o_len_zt (ys := l) (enc := eL_TApiChange) Tryz.underlying22 rfl) ?_
  refine wv (r := rI .i64 0) (o_move rfl) ?_
  refine wl_x ?_
  refine wc_block ?_
  obtain ⟨o43, eo44, hK45⟩ := obn_e h3
  refine wc_loop2 (S := Nat × (Int) × (Unit)) (V := (Unit) × (Unit)) 0 (fun σ => lop (fun σ => lFew_b1 F l σ) σ.1 σ.2.1 = some o43) (fun σ => [(0, rSl 1 (List.map eL_TApiChange l)), (2, rB false), (8, rI .i64 (l.length : Int)), (9, rI .i64 σ.2.1)]) (fun σ => []) (fun σ => σ.1) (F, 0, ()) eo44 (Sub.c rfl (Sub.c rfl (Sub.c rfl (Sub.c rfl Sub.nil)))) sN (fun σ => lFew_k1  = some r) (fun σ => [(2, rB false)]) (fun σ => []) ?_ ?_
  ·rintro ⟨n51, x29, ⟨⟩⟩ hi49
   refine wc_as (l' := [(0, rSl 1 (List.map eL_TApiChange l)), (2, rB false), (8, rI .i64 (l.length : Int)), (9, rI .i64 x29)]) (H' := []) rfl rfl ?_
   obtain ⟨m48, rfl, t46, h50, ht47⟩ := lop_e hi49
   replace h50 : lFew_b1 F l x29 = some t46 := h50
   unfold lFew_b1 at h50
   refine wc_sr ?_
   refine wv (o_lt rfl rfl) ?_
   refine wl_x ?_
   refine wc_seq ?_
   refine wc_cond (b := decide (x29 < (l.length : Int))) rfl (fun c52 => ?_) (fun c52 => ?_)
   ·have h53 := cnd_t c52 h50
    refine wc_skip ?_
    refine wk_x ?_
    refine wc_seq ?_
    refine wc_block ?_
    refine wc_sr ?_
    refine wm rfl ?_
    refine wa rfl ?_
    refine wl_y ?_
    refine wm rfl ?_
    refine wm rfl ?_
    obtain ⟨g54, h55⟩ := chk_e h53
    refine wv (o_ix_z (enc := eL_TApiChange) (ys := l) Tryz.underlying22 Tryz.sizeOf31 rfl rfl g54) ?_
    refine wv (o_load_z Tryz.isAgg31 rfl rfl) ?_
    obtain ⟨r56, e58, h57⟩ := obn_e h55
    refine wc0 Tryz.call22 (lSmall_w F (at' l x29) r56 e58) rfl ?_
    refine wv (o_not rfl) ?_
    refine wl_x ?_
    refine wc_cond (b := !r56) rfl (fun c59 => ?_) (fun c59 => ?_)
    ·have h60 := cnd_t c59 h57
     refine wc_sr ?_
     refine wv (r := rB false) (o_assign rfl) ?_
     refine wl_x ?_
     refine wc_ret ?_
     refine wk_in_ret ?_
     refine wk_then_ret ?_
     refine wk_then_ret ?_
     refine wk_cut_ret ?_
     have h61 := stp_ret h60 ht47 hK45
     refine wk_in_ret ?_
     refine wk_then_ret ?_
     obtain rfl := some_e h61
     exact wk_ret (r_1 Tryz.results9 (rv_t rfl)) sN ⟨rfl, rfl⟩
    ·have h62 := cnd_f c59 h57
     refine wc_skip ?_
     refine wk_in_norm ?_
     refine wk_x ?_
     refine wc_region ?_
     obtain ⟨g63, h64⟩ := chk_e h62
     refine wv (o_add rfl rfl g63) ?_
     refine wm rfl ?_
     refine wl_nil ?_
     have h65 := stp_next h64 ht47
     exact wk_then (wk_some (m48, x29 + 1, ()) ⟨h65, Nat.lt_succ_self _⟩ (Sub.c rfl (Sub.c rfl (Sub.c rfl (Sub.c rfl Sub.nil)))) sN)
   ·have h66 := cnd_f c52 h50
    refine wc_exit ?_
    refine wk_then_exit ?_
    have h67 := stp_go h66 ht47 hK45
    exact wk_then_exit (wk_cut_hit (wk_some ((), ()) h67 (Sub.c rfl Sub.nil) sN))
  ·rintro ⟨⟨⟩, ⟨⟩⟩ h68
   refine wk_as (l' := [(2, rB false)]) (H' := []) rfl rfl ?_
   replace h68 : lFew_k1  = some r := h68
   unfold lFew_k1 at h68
   refine wk_in_hit ?_
   refine wk_x ?_
   refine wc_sr ?_
   refine wv (r := rB true) (o_assign rfl) ?_
   refine wl_x ?_
   refine wc_ret ?_
   obtain rfl := some_e h68
   exact wk_ret (r_1 Tryz.results9 (rv_t rfl)) sN ⟨rfl, rfl⟩

theorem lPut_w (n : Int) (version : Int) (r : TApiChange) (h : lPut n version = some r) : Fn Tryz.prog GE 33 [rI .i64 n, rI .i64 version] [] (fun R H => R = rAgg (eTApiChange r) ∧ H = []) := by
 refine enter (n := 10) Tryz.func33 rfl Tryz.ntmps33 rfl (fun w Z => ?_)
 refine wc_as (l' := [(0, rI .i64 n), (1, rI .i64 version)]) (H' := []) rfl rfl ?_
 unfold lPut at h
 refine wc_sr ?_
 refine w_alloc (cs := [rS ([] : Str), rB false, rv (.slice none 0 0), rI .i64 0]) Tryz.zeroValue50 rfl rfl (fun b1 => ?_)
 refine wl_y ?_
 refine wm rfl ?_
 refine wv (r := rAgg [rI .i64 3, rI .i64 n, rS ([] : Str), rI .i64 0]) (o_build78_0_1 rfl rfl rfl rfl) ?_
 refine w_buildSlice (ys := ([(TApiCell.mk 3 n ([] : Str) 0)] : List TApiCell)) (enc := eTApiCell) (css := [[rI .i64 3, rI .i64 n, rS ([] : Str), rI .i64 0]]) (xs := [.tmp 6]) Tryz.underlying33 Tryz.sizeOf78 Tryz.zeroValue78 rfl rfl rfl ⟨Cel.agg ⟨Up.refl _, Up.refl _, Up.refl _, Up.refl _, trivial⟩, trivial⟩ rfl eTApiCell_len rfl rfl rfl (fun b2 => ?_)
 refine wm rfl ?_
 refine wv (r := rAgg [rS ([107] : Str), rB false, rv (.slice (some ⟨b2, 0, none⟩) 1 1), rI .i64 version]) (o_build50_0_2_3 rfl rfl rfl rfl rfl rfl) ?_
 refine u_store_agg (i := 1) Tryz.sizeOf50 rfl rfl rfl ⟨(one_c rfl), (one_c rfl), (one_row (i := 0) rfl), (one_c rfl), trivial⟩ rfl rfl (cs' := [rS ([107] : Str), rB false, rv (.slice (some ⟨b2, 0, none⟩) 1 1), rI .i64 version]) rfl (H' := [.row (.slice (some ⟨b2, 0, none⟩) 1 1) 78 4 (List.map eTApiCell ([(TApiCell.mk 3 n ([] : Str) 0)] : List TApiCell)), .blk b1 [rS ([107] : Str), rB false, rv (.slice (some ⟨b2, 0, none⟩) 1 1), rI .i64 version] 50]) rfl ?_
 refine wl_x ?_
 refine wc_ret ?_
 refine WK.freeze (i := 0) rfl ?_
 refine WK.upBlk (i := 1) (cs' := [rS ([107] : Str), rB false, rSl 4 (List.map eTApiCell ([(TApiCell.mk 3 n ([] : Str) 0)] : List TApiCell)), rI .i64 version]) rfl ⟨Up.refl _, Up.refl _, Up.fact (i := 0) rfl, Up.refl _, trivial⟩ ?_
 obtain rfl := some_e h
 exact wk_ret (r_1 Tryz.results33 (rv_ca (i := 1) Tryz.isAgg50 Tryz.sizeOf50 rfl rfl rfl)) (sS (sS sN)) ⟨rfl, rfl⟩

theorem fJoinN_w (F : Nat)  (r : Str × Int) (h : fJoinN F = some r) : Fn Tryz.prog GE 46 [rv (.slice none 0 0)] [] (fun R H => R = rTup [rS r.1, rI .i64 r.2] ∧ H = []) := by
 refine enter (n := 36) Tryz.func46 rfl Tryz.ntmps46 rfl (fun w Z => ?_)
 refine wc_as (l' := [(0, rv (.slice none 0 0))]) (H' := []) rfl rfl ?_
 unfold fJoinN at h
 refine wc_sr ?_
 refine wv (r := rS ([] : Str)) (o_assign rfl) ?_
 refine wv (r := rI .i64 0) (o_assign rfl) ?_
 refine wl_y ?_
 refine wv (r := rv (.slice none 0 0)) (o_assign rfl) ?_
 refine wl_x ?_
 refine wc_seq ?_
 refine wc_sr ?_
 refine wm rfl ?_
 refine wv (r := rI .i64 0) (o_len_nil Tryz.underlying51 rfl) ?_
 refine wv (r := rI .i64 0) (o_move rfl) ?_
 refine wl_x ?_
 refine wc_block ?_
 obtain ⟨o1, eo2, hK3⟩ := obn_e h
 refine wc_loop2 (S := Nat × (Unit) × (Unit)) (V := (Unit) × (Unit)) 0 (fun σ => lop (fun σ => fJoinN_b1 ) σ.1 σ.2.1 = some o1) (fun σ => [(2, rS ([] : Str)), (3, rI .i64 0), (4, rv (.slice none 0 0)), (9, rv (.slice none 0 0)), (10, rI .i64 0), (11, rI .i64 0)]) (fun σ => []) (fun σ => σ.1) (F, (), ()) eo2 (Sub.c rfl (Sub.c5 rfl rfl rfl rfl rfl Sub.nil)) sN (fun σ => fJoinN_k1  = some r) (fun σ => [(2, rS ([] : Str)), (3, rI .i64 0), (4, rv (.slice none 0 0))]) (fun σ => []) ?_ ?_
 ·rintro ⟨n9, ⟨⟩, ⟨⟩⟩ hi7
  refine wc_as (l' := [(2, rS ([] : Str)), (3, rI .i64 0), (4, rv (.slice none 0 0)), (9, rv (.slice none 0 0)), (10, rI .i64 0), (11, rI .i64 0)]) (H' := []) rfl rfl ?_
  obtain ⟨m6, rfl, t4, h8, ht5⟩ := lop_e hi7
  replace h8 : fJoinN_b1  = some t4 := h8
  unfold fJoinN_b1 at h8
  refine wc_sr ?_
  refine wv (o_lt rfl rfl) ?_
  refine wl_x ?_
  refine wc_seq ?_
  refine wc_cond_f rfl (by decide) ?_
  refine wc_exit ?_
  refine wk_then_exit ?_
  have h10 := stp_go h8 ht5 hK3
  exact wk_then_exit (wk_cut_hit (wk_some ((), ()) h10 (Sub.c rfl (Sub.c rfl (Sub.c rfl Sub.nil))) sN))
 ·rintro ⟨⟨⟩, ⟨⟩⟩ h11
  refine wk_as (l' := [(2, rS ([] : Str)), (3, rI .i64 0), (4, rv (.slice none 0 0))]) (H' := []) rfl rfl ?_
  replace h11 : fJoinN_k1  = some r := h11
  unfold fJoinN_k1 at h11
  refine wk_in_hit ?_
  refine wk_x ?_
  refine wc_sr ?_
  refine wm rfl ?_
  refine wv (r := rS ([] : Str)) (o_b2s_nil Tryz.underlying94 Tryz.underlying9 Tryz.underlying5 rfl) ?_
  refine wa rfl ?_
  refine wv (r := rI .i64 0) (o_assign rfl) ?_
  refine wl_x ?_
  refine wc_ret ?_
  obtain rfl := some_e h11
  exact wk_ret (r_2 Tryz.results46 (rv_t rfl) (rv_t rfl)) sN ⟨rfl, rfl⟩

theorem kEncodeN_w (F : Nat)  (r : Str × Int) (h : kEncodeN F = some r) : Fn Tryz.prog GE 23 [rv (.slice none 0 0)] [] (fun R H => R = rTup [rS r.1, rI .i64 r.2] ∧ H = []) := by
 refine enter (n := 38) Tryz.func23 rfl Tryz.ntmps23 rfl (fun w Z => ?_)
 refine wc_as (l' := [(0, rv (.slice none 0 0))]) (H' := []) rfl rfl ?_
 unfold kEncodeN at h
 refine wc_sr ?_
 refine wv (r := rS ([] : Str)) (o_assign rfl) ?_
 refine wv (r := rI .i64 0) (o_assign rfl) ?_
 refine wl_x ?_
 refine wc_seq ?_
 refine wc_sr ?_
 refine wm rfl ?_
 refine WL.up (d := 10) (r := rSl 4 (List.map eTApiChange ([] : List TApiChange))) rfl (Up.le (Rle.nil _)) ?_
 obtain ⟨r1, e3, h2⟩ := obn_e h
 refine wc0 Tryz.call35 (kValid_w F ([] : List TApiChange) r1 e3) rfl ?_
 refine wa rfl ?_
 refine wl_y ?_
 refine wm rfl ?_
 refine wv (o_ne rfl rfl) ?_
 refine wl_x ?_
 refine wc_cond (b := !decide (r1 = 0)) rfl (fun c4 => ?_) (fun c4 => ?_)
 ·have h5 := cnd_t c4 h2
  refine wc_sr ?_
  refine wm rfl ?_
  refine wv (r := rS ([] : Str)) (o_assign rfl) ?_
  refine wa rfl ?_
  refine wl_x ?_
  refine wc_ret ?_
  refine wk_then_ret ?_
  obtain rfl := some_e h5
  exact wk_ret (r_2 Tryz.results23 (rv_t rfl) (rv_t rfl)) sN ⟨rfl, rfl⟩
 ·have h6 := cnd_f c4 h2
  refine wc_skip ?_
  refine wk_x ?_
  refine wc_sr ?_
  refine wv (r := rv (.slice none 0 0)) (o_assign rfl) ?_
  refine wl_x ?_
  refine wc_seq ?_
  refine wc_sr ?_
  refine wm rfl ?_
  refine wv (r := rI .i64 0) (o_len_nil Tryz.underlying31 rfl) ?_
  refine wv (r := rI .i64 0) (o_move rfl) ?_
  refine wl_x ?_
  refine wc_block ?_
  obtain ⟨o7, eo8, hK9⟩ := obn_e h6
  refine wc_loop2 (S := Nat × (Unit) × (Unit)) (V := (Unit) × (Unit)) 0 (fun σ => lop (fun σ => kEncodeN_b1 ) σ.1 σ.2.1 = some o7) (fun σ => [(2, rS ([] : Str)), (3, rI .i64 0), (5, rv (.slice none 0 0)), (15, rv (.slice none 0 0)), (16, rI .i64 0), (17, rI .i64 0)]) (fun σ => []) (fun σ => σ.1) (F, (), ()) eo8 (Sub.c rfl (Sub.c5 rfl rfl rfl rfl rfl Sub.nil)) sN (fun σ => kEncodeN_k1 F  = some r) (fun σ => [(2, rS ([] : Str)), (3, rI .i64 0), (5, rv (.slice none 0 0))]) (fun σ => []) ?_ ?_
  ·rintro ⟨n15, ⟨⟩, ⟨⟩⟩ hi13
   refine wc_as (l' := [(2, rS ([] : Str)), (3, rI .i64 0), (5, rv (.slice none 0 0)), (15, rv (.slice none 0 0)), (16, rI .i64 0), (17, rI .i64 0)]) (H' := []) rfl rfl ?_
   obtain ⟨m12, rfl, t10, h14, ht11⟩ := lop_e hi13
   replace h14 : kEncodeN_b1  = some t10 := h14
   unfold kEncodeN_b1 at h14
   refine wc_sr ?_
   refine wv (o_lt rfl rfl) ?_
   refine wl_x ?_
   refine wc_seq ?_
   refine wc_cond_f rfl (by decide) ?_
   refine wc_exit ?_
   refine wk_then_exit ?_
   have h16 := stp_go h14 ht11 hK9
   exact wk_then_exit (wk_cut_hit (wk_some ((), ()) h16 (Sub.c rfl (Sub.c rfl (Sub.c rfl Sub.nil))) sN))
  ·rintro ⟨⟨⟩, ⟨⟩⟩ h17
   refine wk_as (l' := [(2, rS ([] : Str)), (3, rI .i64 0), (5, rv (.slice none 0 0))]) (H' := []) rfl rfl ?_
   replace h17 : kEncodeN_k1 F  = some r := h17
   unfold kEncodeN_k1 at h17
   refine wk_in_hit ?_
   refine wk_x ?_
   refine wc_sr ?_
   refine wm rfl ?_
   obtain ⟨r18, e20, h19⟩ := obn_e h17
   refine wc0 Tryz.call46 (fJoinN_w F r18 e20) rfl ?_
   refine wv (o_extract rfl rfl) ?_
   refine wv (o_extract rfl rfl) ?_
   refine wa rfl ?_
   refine wa rfl ?_
   refine wl_x ?_
   refine wc_ret ?_
   obtain rfl := some_e h19
   exact wk_ret (r_2 Tryz.results23 (rv_t rfl) (rv_t rfl)) sN ⟨rfl, rfl⟩

theorem lAwake_w (F : Nat)  (r : Bool) (h : lAwake F = some r) : Fn Tryz.prog GE 10 [] [] (fun R H => R = rB r ∧ H = []) := by
 refine enter (n := 86) Tryz.func10 rfl Tryz.ntmps10 rfl (fun w Z => ?_)
 refine wc_as (l' := []) (H' := []) rfl rfl ?_
 unfold lAwake at h
 refine wc_sr ?_
 refine wv (r := rB false) (o_assign rfl) ?_
 refine wl_y ?_
 obtain ⟨r1, e3, h2⟩ := obn_e h
 refine wcl (Hr := []) Tryz.call11 (kNew_w r1 e3) rfl (List.Perm.refl _) rfl ?_
 rintro _ _ ⟨b4, b5, b6, rfl, rfl⟩
 refine wa rfl ?_
 refine wl_x ?_
 refine wc_seq ?_
 refine wc_seq_cut (S := (Bool × (List (Str × TApiItem)) × (List (Str × TApiItem))) × (Unit)) (fun σ => lAwake_j1 F σ.1.1 σ.1.2.1 σ.1.2.2 = some r) (fun σ => [(0, rB false), (1, rv (.pointer (some ⟨b4, 0, none⟩))), (25, rB σ.1.1)]) (fun σ => [.blk b4 [rv (.map (some b5)), rv (.map (some b6))] 59, .map b5 (menc m_TApiItem σ.1.2.1), .map b6 (menc m_TApiItem σ.1.2.2)]) ?_ ?_
 ·refine wc_region ?_
  refine wm rfl ?_
  refine wv (r := rB false) (o_pnil ⟨_, Tryz.underlying25⟩ rfl) ?_
  refine wm rfl ?_
  refine wl_on (b := false) rfl rfl rfl ?_
  refine wm rfl ?_
  refine wl_on (b := false) rfl rfl rfl ?_
  obtain ⟨r27, e29, h28⟩ := obn_e h2
  refine wc0 Tryz.call33 (lPut_w 1 0 r27 e29) rfl ?_
  refine wl_on (b := false) rfl rfl rfl ?_
  obtain ⟨r30, e32, h31⟩ := obn_e h28
  refine wc0 Tryz.call33 (lPut_w 2 0 r30 e32) rfl ?_
  refine wl_on (b := false) rfl rfl rfl ?_
  refine w_buildSlice (ys := ([r27, r30] : List TApiChange)) (enc := eTApiChange) (css := [[rS r27.fKey, rB r27.fDelete, rSl 4 (List.map eTApiCell r27.fValue), rI .i64 r27.fIfVersion], [rS r30.fKey, rB r30.fDelete, rSl 4 (List.map eTApiCell r30.fValue), rI .i64 r30.fIfVersion]]) (xs := [.tmp 15, .tmp 16]) Tryz.underlying31 Tryz.sizeOf50 Tryz.zeroValue50 rfl rfl rfl ⟨Cel.agg ⟨Up.refl _, Up.refl _, Up.refl _, Up.refl _, trivial⟩, Cel.agg ⟨Up.refl _, Up.refl _, Up.refl _, Up.refl _, trivial⟩, trivial⟩ rfl eTApiChange_len rfl rfl rfl (fun b33 => ?_)
  refine wl_on (b := false) rfl rfl rfl ?_
  refine WL.freeze (i := 0) rfl ?_
  refine WL.up (d := 17) (r := rSl 4 (List.map eTApiChange ([r27, r30] : List TApiChange))) rfl (Up.fact (i := 0) rfl) ?_
  obtain ⟨r34, e36, h35⟩ := obn_e h31
  refine wcl (Hr := [.fact (.slice (some ⟨b33, 0, none⟩) 2 2) (rSl 4 (List.map eTApiChange ([r27, r30] : List TApiChange)))]) Tryz.call13 (kApply_w F b4 b5 b6 r1 ([r27, r30] : List TApiChange) r34 e36) rfl ((perm_front (i := 1) rfl).trans (List.Perm.cons _ ((perm_front (i := 1) rfl).trans (List.Perm.cons _ ((perm_front (i := 1) rfl).trans (List.Perm.cons _ (List.Perm.refl _))))))) rfl ?_
  rintro _ _ ⟨rfl, rfl⟩
  refine wl_on (b := false) rfl rfl rfl ?_
  refine wv (o_ne rfl rfl) ?_
  refine wv (r := rB (!decide (r34.1 = 19))) (o_pick_f (b := false) rfl rfl rfl) ?_
  refine wm rfl ?_
  refine bsplit (!decide (r34.1 = 19)) (fun c37 => ?_) (fun c37 => ?_)
  ·have h38 := cnd_t c37 h35
   refine wf c37 ?_
   refine wf c37 ?_
   refine wf c37 ?_
   refine wv (r := rB true) (o_pick_t (b := !decide (r34.1 = 19)) rfl c37 rfl) ?_
   refine wl_nil ?_
   exact wk_then (wk_some ((true, r34.2.fItems, r34.2.fChanged), ()) h38 (Sub.c rfl (Sub.c rfl (Sub.c rfl Sub.nil))) (sC (sC (sC (sS sN)))))
  ·have h39 := cnd_f c37 h35
   refine wo c37 ?_
   refine wm rfl ?_
   refine wo c37 ?_
   obtain ⟨r40, e42, h41⟩ := obn_e h39
   refine wcl (Hr := [.fact (.slice (some ⟨b33, 0, none⟩) 2 2) (rSl 4 (List.map eTApiChange ([r27, r30] : List TApiChange)))]) Tryz.call15 (kLen_w b4 b5 b6 r34.2 r40 e42) rfl (List.Perm.refl _) rfl ?_
   rintro _ _ ⟨rfl, rfl⟩
   refine wo c37 ?_
   refine wv (o_ne rfl rfl) ?_
   refine wpf rfl c37 rfl ?_
   refine wl_nil ?_
   exact wk_then (wk_some ((!decide (r40.1 = 0), r40.2.fItems, r40.2.fChanged), ()) h41 (Sub.c rfl (Sub.c rfl (Sub.c rfl Sub.nil))) (sC (sC (sC (sS sN)))))
 ·rintro ⟨⟨x24, x25, x26⟩, ⟨⟩⟩ h43
  refine wc_as (l' := [(0, rB false), (1, rv (.pointer (some ⟨b4, 0, none⟩))), (25, rB x24)]) (H' := [.blk b4 [rv (.map (some b5)), rv (.map (some b6))] 59, .map b5 (menc m_TApiItem x25), .map b6 (menc m_TApiItem x26)]) rfl rfl ?_
  replace h43 : lAwake_j1 F x24 x25 x26 = some r := h43
  unfold lAwake_j1 at h43
  refine wc_cond (b := x24) rfl (fun c44 => ?_) (fun c44 => ?_)
  ·have h45 := cnd_t c44 h43
   refine wc_sr ?_
   refine wv (r := rB false) (o_assign rfl) ?_
   refine wl_x ?_
   refine wc_ret ?_
   refine wk_then_ret ?_
   obtain rfl := some_e h45
   exact wk_ret (r_1 Tryz.results10 (rv_t rfl)) (sS (sS (sS sN))) ⟨rfl, rfl⟩
  ·have h46 := cnd_f c44 h43
   refine wc_skip ?_
   refine wk_x ?_
   refine wc_sr ?_
   refine wm rfl ?_
   obtain ⟨r47, e49, h48⟩ := obn_e h46
   refine wc0 Tryz.call33 (lPut_w 5 0 r47 e49) rfl ?_
   refine w_buildSlice (ys := ([r47] : List TApiChange)) (enc := eTApiChange) (css := [[rS r47.fKey, rB r47.fDelete, rSl 4 (List.map eTApiCell r47.fValue), rI .i64 r47.fIfVersion]]) (xs := [.tmp 27]) Tryz.underlying31 Tryz.sizeOf50 Tryz.zeroValue50 rfl rfl rfl ⟨Cel.agg ⟨Up.refl _, Up.refl _, Up.refl _, Up.refl _, trivial⟩, trivial⟩ rfl eTApiChange_len rfl rfl rfl (fun b50 => ?_)
   refine WL.freeze (i := 0) rfl ?_
   refine WL.up (d := 28) (r := rSl 4 (List.map eTApiChange ([r47] : List TApiChange))) rfl (Up.fact (i := 0) rfl) ?_
   obtain ⟨r51, e53, h52⟩ := obn_e h48
   refine wcl (Hr := [.fact (.slice (some ⟨b50, 0, none⟩) 1 1) (rSl 4 (List.map eTApiChange ([r47] : List TApiChange)))]) Tryz.call13 (kApply_w F b4 b5 b6 (TKvStore.mk x25 x26) ([r47] : List TApiChange) r51 e53) rfl ((perm_front (i := 1) rfl).trans (List.Perm.cons _ ((perm_front (i := 1) rfl).trans (List.Perm.cons _ ((perm_front (i := 1) rfl).trans (List.Perm.cons _ (List.Perm.refl _))))))) rfl ?_
   rintro _ _ ⟨rfl, rfl⟩
   refine wa rfl ?_
   refine wl_y ?_
   refine wm rfl ?_
   obtain ⟨r54, e56, h55⟩ := obn_e h52
   refine wc0 Tryz.call33 (lPut_w 5 0 r54 e56) rfl ?_
   refine w_buildSlice (ys := ([r54] : List TApiChange)) (enc := eTApiChange) (css := [[rS r54.fKey, rB r54.fDelete, rSl 4 (List.map eTApiCell r54.fValue), rI .i64 r54.fIfVersion]]) (xs := [.tmp 31]) Tryz.underlying31 Tryz.sizeOf50 Tryz.zeroValue50 rfl rfl rfl ⟨Cel.agg ⟨Up.refl _, Up.refl _, Up.refl _, Up.refl _, trivial⟩, trivial⟩ rfl eTApiChange_len rfl rfl rfl (fun b57 => ?_)
   refine WL.freeze (i := 0) rfl ?_
   refine WL.up (d := 32) (r := rSl 4 (List.map eTApiChange ([r54] : List TApiChange))) rfl (Up.fact (i := 0) rfl) ?_
   obtain ⟨r58, e60, h59⟩ := obn_e h55
   refine wcl (Hr := [.fact (.slice (some ⟨b57, 0, none⟩) 1 1) (rSl 4 (List.map eTApiChange ([r54] : List TApiChange))), .fact (.slice (some ⟨b50, 0, none⟩) 1 1) (rSl 4 (List.map eTApiChange ([r47] : List TApiChange)))]) Tryz.call13 (kApply_w F b4 b5 b6 r51.2 ([r54] : List TApiChange) r58 e60) rfl ((perm_front (i := 1) rfl).trans (List.Perm.cons _ ((perm_front (i := 1) rfl).trans (List.Perm.cons _ ((perm_front (i := 1) rfl).trans (List.Perm.cons _ (List.Perm.refl _))))))) rfl ?_
   rintro _ _ ⟨rfl, rfl⟩
   refine wa rfl ?_
   refine wl_y ?_
   refine wm rfl ?_
   obtain ⟨r61, e63, h62⟩ := obn_e h59
   refine wc0 Tryz.call33 (lPut_w 6 1 r61 e63) rfl ?_
   refine w_buildSlice (ys := ([r61] : List TApiChange)) (enc := eTApiChange) (css := [[rS r61.fKey, rB r61.fDelete, rSl 4 (List.map eTApiCell r61.fValue), rI .i64 r61.fIfVersion]]) (xs := [.tmp 35]) Tryz.underlying31 Tryz.sizeOf50 Tryz.zeroValue50 rfl rfl rfl ⟨Cel.agg ⟨Up.refl _, Up.refl _, Up.refl _, Up.refl _, trivial⟩, trivial⟩ rfl eTApiChange_len rfl rfl rfl (fun b64 => ?_)
   refine WL.freeze (i := 0) rfl ?_
   refine WL.up (d := 36) (r := rSl 4 (List.map eTApiChange ([r61] : List TApiChange))) rfl (Up.fact (i := 0) rfl) ?_
   obtain ⟨r65, e67, h66⟩ := obn_e h62
   refine wcl (Hr := [.fact (.slice (some ⟨b64, 0, none⟩) 1 1) (rSl 4 (List.map eTApiChange ([r61] : List TApiChange))), .fact (.slice (some ⟨b57, 0, none⟩) 1 1) (rSl 4 (List.map eTApiChange ([r54] : List TApiChange))), .fact (.slice (some ⟨b50, 0, none⟩) 1 1) (rSl 4 (List.map eTApiChange ([r47] : List TApiChange)))]) Tryz.call13 (kApply_w F b4 b5 b6 r58.2 ([r61] : List TApiChange) r65 e67) rfl ((perm_front (i := 1) rfl).trans (List.Perm.cons _ ((perm_front (i := 1) rfl).trans (List.Perm.cons _ ((perm_front (i := 1) rfl).trans (List.Perm.cons _ (List.Perm.refl _))))))) rfl ?_
   rintro _ _ ⟨rfl, rfl⟩
   refine wa rfl ?_
   refine wl_y ?_
   refine wm rfl ?_
   obtain ⟨r68, e70, h69⟩ := obn_e h66
   refine wcl (Hr := [.fact (.slice (some ⟨b64, 0, none⟩) 1 1) (rSl 4 (List.map eTApiChange ([r61] : List TApiChange))), .fact (.slice (some ⟨b57, 0, none⟩) 1 1) (rSl 4 (List.map eTApiChange ([r54] : List TApiChange))), .fact (.slice (some ⟨b50, 0, none⟩) 1 1) (rSl 4 (List.map eTApiChange ([r47] : List TApiChange)))]) Tryz.call17 (kGet_w b4 b5 b6 r65.2 ([107] : Str) r68 e70) rfl (List.Perm.refl _) rfl ?_
   rintro _ _ ⟨rfl, rfl⟩
   refine wm rfl ?_
   refine wv (o_extract rfl rfl) ?_
   refine wv (o_extract rfl rfl) ?_
   refine w_alloc (cs := [rS ([] : Str), rv (.slice none 0 0), rI .i64 0]) Tryz.zeroValue35 rfl rfl (fun b71 => ?_)
   refine u_store_agg (i := 0) Tryz.sizeOf35 rfl rfl rfl (OneAll.c rfl) rfl rfl (cs' := [rS r68.1.fKey, rSl 4 (List.map eTApiCell r68.1.fValue), rI .i64 r68.1.fVersion]) rfl (H' := [.blk b71 (eTApiItem r68.1) 35, .blk b4 [rv (.map (some b5)), rv (.map (some b6))] 59, .map b5 (menc m_TApiItem r68.2.2.fItems), .map b6 (menc m_TApiItem r68.2.2.fChanged), .fact (.slice (some ⟨b64, 0, none⟩) 1 1) (rSl 4 (List.map eTApiChange ([r61] : List TApiChange))), .fact (.slice (some ⟨b57, 0, none⟩) 1 1) (rSl 4 (List.map eTApiChange ([r54] : List TApiChange))), .fact (.slice (some ⟨b50, 0, none⟩) 1 1) (rSl 4 (List.map eTApiChange ([r47] : List TApiChange)))]) rfl ?_
   refine wa rfl ?_
   refine wl_y ?_
   refine wm rfl ?_
   refine wv (r := rAgg [rS ([107] : Str), rB true, rv (.slice none 0 0), rI .i64 2]) (o_build50_0_1_3 rfl rfl rfl rfl rfl rfl) ?_
   refine w_buildSlice (ys := ([(TApiChange.mk ([107] : Str) true ([] : List TApiCell) 2)] : List TApiChange)) (enc := eTApiChange) (css := [[rS ([107] : Str), rB true, rSl 4 (List.map eTApiCell ([] : List TApiCell)), rI .i64 2]]) (xs := [.tmp 44]) Tryz.underlying31 Tryz.sizeOf50 Tryz.zeroValue50 rfl rfl rfl ⟨Cel.agg ⟨Up.refl _, Up.refl _, Up.le (Rle.nil _), Up.refl _, trivial⟩, trivial⟩ rfl eTApiChange_len rfl rfl rfl (fun b72 => ?_)
   refine WL.freeze (i := 0) rfl ?_
   refine WL.up (d := 45) (r := rSl 4 (List.map eTApiChange ([(TApiChange.mk ([107] : Str) true ([] : List TApiCell) 2)] : List TApiChange))) rfl (Up.fact (i := 0) rfl) ?_
   obtain ⟨r73, e75, h74⟩ := obn_e h69
   refine wcl (Hr := [.fact (.slice (some ⟨b72, 0, none⟩) 1 1) (rSl 4 (List.map eTApiChange ([(TApiChange.mk ([107] : Str) true ([] : List TApiCell) 2)] : List TApiChange))), .blk b71 (eTApiItem r68.1) 35, .fact (.slice (some ⟨b64, 0, none⟩) 1 1) (rSl 4 (List.map eTApiChange ([r61] : List TApiChange))), .fact (.slice (some ⟨b57, 0, none⟩) 1 1) (rSl 4 (List.map eTApiChange ([r54] : List TApiChange))), .fact (.slice (some ⟨b50, 0, none⟩) 1 1) (rSl 4 (List.map eTApiChange ([r47] : List TApiChange)))]) Tryz.call13 (kApply_w F b4 b5 b6 r68.2.2 ([(TApiChange.mk ([107] : Str) true ([] : List TApiCell) 2)] : List TApiChange) r73 e75) rfl ((perm_front (i := 2) rfl).trans (List.Perm.cons _ ((perm_front (i := 2) rfl).trans (List.Perm.cons _ ((perm_front (i := 2) rfl).trans (List.Perm.cons _ (List.Perm.refl _))))))) rfl ?_
   rintro _ _ ⟨rfl, rfl⟩
   refine wa rfl ?_
   refine wl_y ?_
   obtain ⟨r76, e78, h77⟩ := obn_e h74
   refine wc0 Tryz.call23 (kEncodeN_w F r76 e78) rfl ?_
   refine wm rfl ?_
   refine wv (o_extract rfl rfl) ?_
   refine wv (o_extract rfl rfl) ?_
   refine wa rfl ?_
   refine wa rfl ?_
   refine wl_x ?_
   refine wc_seq_cut (S := (Bool) × (Unit)) (fun σ => lAwake_j2 σ.1 = some r) (fun σ => [(0, rB σ.1)]) (fun σ => []) ?_ ?_
   ·refine wc_region ?_
    refine wm rfl ?_
    refine wv (o_eq rfl rfl) ?_
    refine wm rfl ?_
    refine bsplit (decide (r51.1 = 0)) (fun c113 => ?_) (fun c113 => ?_)
    ·have h114 := cnd_t c113 h77
     refine wo c113 ?_
     refine wm rfl ?_
     refine wo c113 ?_
     refine wv (o_eq rfl rfl) ?_
     refine wpt rfl c113 rfl ?_
     refine wm rfl ?_
     refine bsplit (decide (r58.1 = 19)) (fun c115 => ?_) (fun c115 => ?_)
     ·have h116 := cnd_t c115 h114
      refine wo c115 ?_
      refine wm rfl ?_
      refine wo c115 ?_
      refine wv (o_eq rfl rfl) ?_
      refine wpt rfl c115 rfl ?_
      refine wm rfl ?_
      refine bsplit (decide (r65.1 = 0)) (fun c117 => ?_) (fun c117 => ?_)
      ·have h118 := cnd_t c117 h116
       refine wo c117 ?_
       refine wm rfl ?_
       refine wpt rfl c117 rfl ?_
       refine wm rfl ?_
       refine bsplit (r68.2.1) (fun c119 => ?_) (fun c119 => ?_)
       ·have h120 := cnd_t c119 h118
        refine wo c119 ?_
        refine wv (o_fieldAddr Tryz.underlying35 rfl Tryz.sizeOf3 rfl rfl) ?_
        refine wo c119 ?_
        refine wv (o_load (i := 4) Tryz.isAgg3 rfl rfl rfl) ?_
        refine wo c119 ?_
        refine wv (o_eq rfl rfl) ?_
        refine wpt rfl c119 rfl ?_
        refine wm rfl ?_
        refine bsplit (decide (r68.1.fVersion = 2)) (fun c121 => ?_) (fun c121 => ?_)
        ·have h122 := cnd_t c121 h120
         refine wo c121 ?_
         refine wm rfl ?_
         refine wo c121 ?_
         refine wv (o_eq rfl rfl) ?_
         refine wpt rfl c121 rfl ?_
         refine wm rfl ?_
         refine bsplit (decide (r73.1 = 0)) (fun c123 => ?_) (fun c123 => ?_)
         ·have h124 := cnd_t c123 h122
          refine wo c123 ?_
          refine wm rfl ?_
          refine wo c123 ?_
          obtain ⟨r125, e127, h126⟩ := obn_e h124
          refine wcl (Hr := [.fact (.slice (some ⟨b72, 0, none⟩) 1 1) (rSl 4 (List.map eTApiChange ([(TApiChange.mk ([107] : Str) true ([] : List TApiCell) 2)] : List TApiChange))), .blk b71 (eTApiItem r68.1) 35, .fact (.slice (some ⟨b64, 0, none⟩) 1 1) (rSl 4 (List.map eTApiChange ([r61] : List TApiChange))), .fact (.slice (some ⟨b57, 0, none⟩) 1 1) (rSl 4 (List.map eTApiChange ([r54] : List TApiChange))), .fact (.slice (some ⟨b50, 0, none⟩) 1 1) (rSl 4 (List.map eTApiChange ([r47] : List TApiChange)))]) Tryz.call15 (kLen_w b4 b5 b6 r73.2 r125 e127) rfl (List.Perm.refl _) rfl ?_
          rintro _ _ ⟨rfl, rfl⟩
          refine wo c123 ?_
          refine wv (o_eq rfl rfl) ?_
          refine wpt rfl c123 rfl ?_
          refine wm rfl ?_
          refine bsplit (decide (r125.1 = 0)) (fun c128 => ?_) (fun c128 => ?_)
          ·have h129 := cnd_t c128 h126
           refine wo c128 ?_
           refine wm rfl ?_
           refine wo c128 ?_
           refine wv (o_seq rfl rfl) ?_
           refine wpt rfl c128 rfl ?_
           refine wm rfl ?_
           refine bsplit (decide (r76.1 = ([] : Str))) (fun c130 => ?_) (fun c130 => ?_)
           ·have h131 := cnd_t c130 h129
            refine wo c130 ?_
            refine wm rfl ?_
            refine wo c130 ?_
            refine wv (o_eq rfl rfl) ?_
            refine wpt rfl c130 rfl ?_
            refine wa rfl ?_
            refine wl_nil ?_
            exact wk_then (wk_some (decide (r76.2 = 0), ()) h131 (Sub.c rfl Sub.nil) (sS (sS (sS (sS (sS (sS (sS (sS sN)))))))))
           ·have h132 := cnd_f c130 h129
            refine wf c130 ?_
            refine wf c130 ?_
            refine wv (r := rB false) (o_pick_f (b := decide (r76.1 = ([] : Str))) rfl c130 rfl) ?_
            refine wa rfl ?_
            refine wl_nil ?_
            exact wk_then (wk_some (false, ()) h132 (Sub.c rfl Sub.nil) (sS (sS (sS (sS (sS (sS (sS (sS sN)))))))))
          ·have h133 := cnd_f c128 h126
           refine wf c128 ?_
           refine wf c128 ?_
           refine wv (r := rB false) (o_pick_f (b := decide (r125.1 = 0)) rfl c128 rfl) ?_
           refine wm rfl ?_
           refine wl_off (b := false) rfl rfl rfl rfl ?_
           refine wl_off (b := false) rfl rfl rfl rfl ?_
           refine wv (r := rB false) (o_pick_f (b := false) rfl rfl rfl) ?_
           refine wa rfl ?_
           refine wl_nil ?_
           exact wk_then (wk_some (false, ()) h133 (Sub.c rfl Sub.nil) (sS (sS (sS (sS (sS (sS (sS (sS sN)))))))))
         ·have h134 := cnd_f c123 h122
          refine wf c123 ?_
          refine wf c123 ?_
          refine wf c123 ?_
          refine wv (r := rB false) (o_pick_f (b := decide (r73.1 = 0)) rfl c123 rfl) ?_
          refine wm rfl ?_
          refine wl_off (b := false) rfl rfl rfl rfl ?_
          refine wl_off (b := false) rfl rfl rfl rfl ?_
          refine wv (r := rB false) (o_pick_f (b := false) rfl rfl rfl) ?_
          refine wm rfl ?_
          refine wl_off (b := false) rfl rfl rfl rfl ?_
          refine wl_off (b := false) rfl rfl rfl rfl ?_
          refine wv (r := rB false) (o_pick_f (b := false) rfl rfl rfl) ?_
          refine wa rfl ?_
          refine wl_nil ?_
          exact wk_then (wk_some (false, ()) h134 (Sub.c rfl Sub.nil) (sS (sS (sS (sS (sS (sS (sS (sS sN)))))))))
        ·have h135 := cnd_f c121 h120
         refine wf c121 ?_
         refine wf c121 ?_
         refine wv (r := rB false) (o_pick_f (b := decide (r68.1.fVersion = 2)) rfl c121 rfl) ?_
         refine wm rfl ?_
         refine wl_off (b := false) rfl rfl rfl rfl ?_
         refine wl_off (b := false) rfl rfl rfl rfl ?_
         refine wl_off (b := false) rfl rfl rfl rfl ?_
         refine wv (r := rB false) (o_pick_f (b := false) rfl rfl rfl) ?_
         refine wm rfl ?_
         refine wl_off (b := false) rfl rfl rfl rfl ?_
         refine wl_off (b := false) rfl rfl rfl rfl ?_
         refine wv (r := rB false) (o_pick_f (b := false) rfl rfl rfl) ?_
         refine wm rfl ?_
         refine wl_off (b := false) rfl rfl rfl rfl ?_
         refine wl_off (b := false) rfl rfl rfl rfl ?_
         refine wv (r := rB false) (o_pick_f (b := false) rfl rfl rfl) ?_
         refine wa rfl ?_
         refine wl_nil ?_
         exact wk_then (wk_some (false, ()) h135 (Sub.c rfl Sub.nil) (sS (sS (sS (sS (sS (sS (sS (sS sN)))))))))
       ·have h136 := cnd_f c119 h118
        refine wf c119 ?_
        refine wf c119 ?_
        refine wf c119 ?_
        refine wv (r := rB false) (o_pick_f (b := r68.2.1) rfl c119 rfl) ?_
        refine wm rfl ?_
        refine wl_off (b := false) rfl rfl rfl rfl ?_
        refine wl_off (b := false) rfl rfl rfl rfl ?_
        refine wv (r := rB false) (o_pick_f (b := false) rfl rfl rfl) ?_
        refine wm rfl ?_
        refine wl_off (b := false) rfl rfl rfl rfl ?_
        refine wl_off (b := false) rfl rfl rfl rfl ?_
        refine wl_off (b := false) rfl rfl rfl rfl ?_
        refine wv (r := rB false) (o_pick_f (b := false) rfl rfl rfl) ?_
        refine wm rfl ?_
        refine wl_off (b := false) rfl rfl rfl rfl ?_
        refine wl_off (b := false) rfl rfl rfl rfl ?_
        refine wv (r := rB false) (o_pick_f (b := false) rfl rfl rfl) ?_
        refine wm rfl ?_
        refine wl_off (b := false) rfl rfl rfl rfl ?_
        refine wl_off (b := false) rfl rfl rfl rfl ?_
        refine wv (r := rB false) (o_pick_f (b := false) rfl rfl rfl) ?_
        refine wa rfl ?_
        refine wl_nil ?_
        exact wk_then (wk_some (false, ()) h136 (Sub.c rfl Sub.nil) (sS (sS (sS (sS (sS (sS (sS (sS sN)))))))))
      ·have h137 := cnd_f c117 h116
       refine wf c117 ?_
       refine wv (r := rB false) (o_pick_f (b := decide (r65.1 = 0)) rfl c117 rfl) ?_
       refine wm rfl ?_
       refine wl_off (b := false) rfl rfl rfl rfl ?_
       refine wl_off (b := false) rfl rfl rfl rfl ?_
       refine wl_off (b := false) rfl rfl rfl rfl ?_
       refine wv (r := rB false) (o_pick_f (b := false) rfl rfl rfl) ?_
       refine wm rfl ?_
       refine wl_off (b := false) rfl rfl rfl rfl ?_
       refine wl_off (b := false) rfl rfl rfl rfl ?_
       refine wv (r := rB false) (o_pick_f (b := false) rfl rfl rfl) ?_
       refine wm rfl ?_
       refine wl_off (b := false) rfl rfl rfl rfl ?_
       refine wl_off (b := false) rfl rfl rfl rfl ?_
       refine wl_off (b := false) rfl rfl rfl rfl ?_
       refine wv (r := rB false) (o_pick_f (b := false) rfl rfl rfl) ?_
       refine wm rfl ?_
       refine wl_off (b := false) rfl rfl rfl rfl ?_
       refine wl_off (b := false) rfl rfl rfl rfl ?_
       refine wv (r := rB false) (o_pick_f (b := false) rfl rfl rfl) ?_
       refine wm rfl ?_
       refine wl_off (b := false) rfl rfl rfl rfl ?_
       refine wl_off (b := false) rfl rfl rfl rfl ?_
       refine wv (r := rB false) (o_pick_f (b := false) rfl rfl rfl) ?_
       refine wa rfl ?_
       refine wl_nil ?_
       exact wk_then (wk_some (false, ()) h137 (Sub.c rfl Sub.nil) (sS (sS (sS (sS (sS (sS (sS (sS sN)))))))))
     ·have h138 := cnd_f c115 h114
      refine wf c115 ?_
      refine wf c115 ?_
      refine wv (r := rB false) (o_pick_f (b := decide (r58.1 = 19)) rfl c115 rfl) ?_
      refine wm rfl ?_
      refine wl_off (b := false) rfl rfl rfl rfl ?_
      refine wv (r := rB false) (o_pick_f (b := false) rfl rfl rfl) ?_
      refine wm rfl ?_
      refine wl_off (b := false) rfl rfl rfl rfl ?_
      refine wl_off (b := false) rfl rfl rfl rfl ?_
      refine wl_off (b := false) rfl rfl rfl rfl ?_
      refine wv (r := rB false) (o_pick_f (b := false) rfl rfl rfl) ?_
      refine wm rfl ?_
      refine wl_off (b := false) rfl rfl rfl rfl ?_
      refine wl_off (b := false) rfl rfl rfl rfl ?_
      refine wv (r := rB false) (o_pick_f (b := false) rfl rfl rfl) ?_
      refine wm rfl ?_
      refine wl_off (b := false) rfl rfl rfl rfl ?_
      refine wl_off (b := false) rfl rfl rfl rfl ?_
      refine wl_off (b := false) rfl rfl rfl rfl ?_
      refine wv (r := rB false) (o_pick_f (b := false) rfl rfl rfl) ?_
      refine wm rfl ?_
      refine wl_off (b := false) rfl rfl rfl rfl ?_
      refine wl_off (b := false) rfl rfl rfl rfl ?_
      refine wv (r := rB false) (o_pick_f (b := false) rfl rfl rfl) ?_
      refine wm rfl ?_
      refine wl_off (b := false) rfl rfl rfl rfl ?_
      refine wl_off (b := false) rfl rfl rfl rfl ?_
      refine wv (r := rB false) (o_pick_f (b := false) rfl rfl rfl) ?_
      refine wa rfl ?_
      refine wl_nil ?_
      exact wk_then (wk_some (false, ()) h138 (Sub.c rfl Sub.nil) (sS (sS (sS (sS (sS (sS (sS (sS sN)))))))))
    ·have h139 := cnd_f c113 h77
     refine wf c113 ?_
     refine wf c113 ?_
     refine wv (r := rB false) (o_pick_f (b := decide (r51.1 = 0)) rfl c113 rfl) ?_
     refine wm rfl ?_
     refine wl_off (b := false) rfl rfl rfl rfl ?_
     refine wl_off (b := false) rfl rfl rfl rfl ?_
     refine wv (r := rB false) (o_pick_f (b := false) rfl rfl rfl) ?_
     refine wm rfl ?_
     refine wl_off (b := false) rfl rfl rfl rfl ?_
     refine wv (r := rB false) (o_pick_f (b := false) rfl rfl rfl) ?_
     refine wm rfl ?_
     refine wl_off (b := false) rfl rfl rfl rfl ?_
     refine wl_off (b := false) rfl rfl rfl rfl ?_
     refine wl_off (b := false) rfl rfl rfl rfl ?_
     refine wv (r := rB false) (o_pick_f (b := false) rfl rfl rfl) ?_
     refine wm rfl ?_
     refine wl_off (b := false) rfl rfl rfl rfl ?_
     refine wl_off (b := false) rfl rfl rfl rfl ?_
     refine wv (r := rB false) (o_pick_f (b := false) rfl rfl rfl) ?_
     refine wm rfl ?_
     refine wl_off (b := false) rfl rfl rfl rfl ?_
     refine wl_off (b := false) rfl rfl rfl rfl ?_
     refine wl_off (b := false) rfl rfl rfl rfl ?_
     refine wv (r := rB false) (o_pick_f (b := false) rfl rfl rfl) ?_
     refine wm rfl ?_
     refine wl_off (b := false) rfl rfl rfl rfl ?_
     refine wl_off (b := false) rfl rfl rfl rfl ?_
     refine wv (r := rB false) (o_pick_f (b := false) rfl rfl rfl) ?_
     refine wm rfl ?_
     refine wl_off (b := false) rfl rfl rfl rfl ?_
     refine wl_off (b := false) rfl rfl rfl rfl ?_
     refine wv (r := rB false) (o_pick_f (b := false) rfl rfl rfl) ?_
     refine wa rfl ?_
     refine wl_nil ?_
     exact wk_then (wk_some (false, ()) h139 (Sub.c rfl Sub.nil) (sS (sS (sS (sS (sS (sS (sS (sS sN)))))))))
   ·rintro ⟨x112, ⟨⟩⟩ h140
    refine wc_as (l' := [(0, rB x112)]) (H' := []) rfl rfl ?_
    replace h140 : lAwake_j2 x112 = some r := h140
    unfold lAwake_j2 at h140
    refine wc_ret ?_
    obtain rfl := some_e h140
    exact wk_ret (r_1 Tryz.results10 (rv_t rfl)) sN ⟨rfl, rfl⟩

end Go.Proofs.YtjfnokmpfekniaaGreatDoor.Q

/-
 What functions compute, with checks: plain definitions, printed by a small program of ours (gq.py). No program in sight.
-/
namespace Go.Proofs.YtjfnokmpfekniaaGreatDoor
open Go
set_option linter.unusedVariables false
structure TFaasref46Store where
 fMade : Bool
 fItems : (List TApiItem)
 deriving DecidableEq, Inhabited
def rNew  : Option (TFaasref46Store) :=
 some (TFaasref46Store.mk true ([] : List TApiItem))

def rPlace_b1 (l : (List TApiItem)) (key : Str) (x61 : Int) : Option (Stp (Int) (Out (Int × Bool) (Int))) :=
 chk (imp (decide (x61 < (l.length : Int))) (inR x61 (l.length : Int))) <| cnd (((decide (x61 < (l.length : Int))) && (sLess ((at' l x61).fKey) key))) (chk (inK .i64 (x61 + 1)) <| some (.next (x61 + 1))) (some (.out (.go x61)))

def rPlace_k1 (l : (List TApiItem)) (key : Str) (x70 : Int) : Option (Int × Bool) :=
 chk (imp (decide (x70 < (l.length : Int))) (inR x70 (l.length : Int))) <| some (x70, ((decide (x70 < (l.length : Int))) && (decide (((at' l x70).fKey) = key))))

def rPlace (F : Nat) (l : (List TApiItem)) (key : Str) : Option (Int × Bool) :=
 obn (lop (fun σ => rPlace_b1 l key σ) F 0) (oute fun ν => rPlace_k1 l key ν)

def rValid (F : Nat) (c : TApiChange) : Option (Int) :=
 obn (i5ID F c.fKey) fun r2 => cnd (!r2) (some 4) (cnd (((decide (c.fIfVersion < (-1))) || (decide (1000000000000 < c.fIfVersion)))) (some 2) (cnd (!c.fDelete) (obn (rCheck F c.fValue) fun r14 => some r14) (cnd (decide (0 < (c.fValue.length : Int))) (some 7) (some 0))))

def rAll_b1 (F : Nat) (l : (List TApiChange)) (x29 : Int) : Option (Stp (Int) (Out (Int) (Unit))) :=
 cnd (decide (x29 < (l.length : Int))) (chk (inR x29 (l.length : Int)) <| obn (rValid F (at' l x29)) fun r56 => cnd (!decide (r56 = 0)) (some (.out (.ret r56))) (chk (inK .i64 (x29 + 1)) <| some (.next (x29 + 1)))) (some (.out (.go ())))

def rAll_k1  : Option (Int) :=
 some 0

def rAll (F : Nat) (l : (List TApiChange)) : Option (Int) :=
 cnd (decide (256 < (l.length : Int))) (some 3) (obn (lop (fun σ => rAll_b1 F l σ) F 0) (oute fun ν => rAll_k1 ))

def rApplied (F : Nat) (l : (List TApiItem)) (c : TApiChange) : Option ((List TApiItem) × Int) :=
 obn (rPlace F l c.fKey) fun r2 => cnd (r2.2) (chk (inR r2.1 (l.length : Int)) <| cnd (((decide (0 ≤ c.fIfVersion)) && (!decide (c.fIfVersion = ((at' l r2.1).fVersion))))) (some (([] : List TApiItem), 19)) (chk (inC r2.1 (l.length : Int)) <| chk (inA 48 (([] : List TApiItem).length + (List.take (Int.toNat r2.1) l).length)) <| cnd (!c.fDelete) (cnd (decide (((at' l r2.1).fVersion) = 1000000000000)) (some (([] : List TApiItem), 8)) (chk (inK .i64 (((at' l r2.1).fVersion) + 1)) <| chk (inA 48 ((([] : List TApiItem) ++ (List.take (Int.toNat r2.1) l)).length + ([(TApiItem.mk c.fKey c.fValue (((at' l r2.1).fVersion) + 1))] : List TApiItem).length)) <| chk (inK .i64 (r2.1 + 1)) <| chk (inC (r2.1 + 1) (l.length : Int)) <| chk (inA 48 (((([] : List TApiItem) ++ (List.take (Int.toNat r2.1) l)) ++ ([(TApiItem.mk c.fKey c.fValue (((at' l r2.1).fVersion) + 1))] : List TApiItem)).length + (List.drop (Int.toNat (r2.1 + 1)) l).length)) <| some (((([] : List TApiItem) ++ (List.take (Int.toNat r2.1) l)) ++ ([(TApiItem.mk c.fKey c.fValue (((at' l r2.1).fVersion) + 1))] : List TApiItem)) ++ (List.drop (Int.toNat (r2.1 + 1)) l), 0))) (chk (inK .i64 (r2.1 + 1)) <| chk (inC (r2.1 + 1) (l.length : Int)) <| chk (inA 48 ((([] : List TApiItem) ++ (List.take (Int.toNat r2.1) l)).length + (List.drop (Int.toNat (r2.1 + 1)) l).length)) <| some ((([] : List TApiItem) ++ (List.take (Int.toNat r2.1) l)) ++ (List.drop (Int.toNat (r2.1 + 1)) l), 0)))) (cnd (((decide (0 ≤ c.fIfVersion)) && (!decide (c.fIfVersion = 0)))) (some (([] : List TApiItem), 19)) (chk (inC r2.1 (l.length : Int)) <| chk (inA 48 (([] : List TApiItem).length + (List.take (Int.toNat r2.1) l).length)) <| cnd (!c.fDelete) (cnd (decide ((l.length : Int) = 256)) (some (([] : List TApiItem), 3)) (chk (inA 48 ((([] : List TApiItem) ++ (List.take (Int.toNat r2.1) l)).length + ([(TApiItem.mk c.fKey c.fValue 1)] : List TApiItem).length)) <| chk (inA 48 (((([] : List TApiItem) ++ (List.take (Int.toNat r2.1) l)) ++ ([(TApiItem.mk c.fKey c.fValue 1)] : List TApiItem)).length + (List.drop (Int.toNat r2.1) l).length)) <| some (((([] : List TApiItem) ++ (List.take (Int.toNat r2.1) l)) ++ ([(TApiItem.mk c.fKey c.fValue 1)] : List TApiItem)) ++ (List.drop (Int.toNat r2.1) l), 0))) (chk (inA 48 ((([] : List TApiItem) ++ (List.take (Int.toNat r2.1) l)).length + (List.drop (Int.toNat r2.1) l).length)) <| some ((([] : List TApiItem) ++ (List.take (Int.toNat r2.1) l)) ++ (List.drop (Int.toNat r2.1) l), 0))))

def rApply_b1 (F : Nat) (q : TFaasref46Store) (l : (List TApiChange)) (x36 : (List TApiItem)) (x37 : Int) : Option (Stp ((List TApiItem) × Int) (Out (Int × TFaasref46Store) ((List TApiItem)))) :=
 cnd (decide (x37 < (l.length : Int))) (chk (inR x37 (l.length : Int)) <| obn (rApplied F x36 (at' l x37)) fun r65 => cnd (!decide (r65.2 = 0)) (some (.out (.ret (r65.2, q)))) (chk (inK .i64 (x37 + 1)) <| some (.next (r65.1, x37 + 1)))) (some (.out (.go x36)))

def rApply_k1 (q : TFaasref46Store) (x51 : (List TApiItem)) : Option (Int × TFaasref46Store) :=
 some (0, (TFaasref46Store.mk q.fMade x51))

def rApply (F : Nat) (q : TFaasref46Store) (l : (List TApiChange)) : Option (Int × TFaasref46Store) :=
 cnd (!q.fMade) (some (10, q)) (obn (rAll F l) fun r4 => cnd (!decide (r4 = 0)) (some (r4, q)) (obn (lop (fun σ => rApply_b1 F q l σ.1 σ.2) F (q.fItems, 0)) (oute fun ν => rApply_k1 q ν)))

def rGet (F : Nat) (q : TFaasref46Store) (key : Str) : Option (TApiItem × Bool × TFaasref46Store) :=
 cnd (!q.fMade) (some ((TApiItem.mk ([] : Str) ([] : List TApiCell) 0), false, q)) (obn (rPlace F q.fItems key) fun r5 => cnd (!r5.2) (some ((TApiItem.mk ([] : Str) ([] : List TApiCell) 0), false, q)) (chk (inR r5.1 (q.fItems.length : Int)) <| some ((at' q.fItems r5.1), true, q)))

def rScan_j2 (x73 : Int) (x133 : (List TApiItem)) : Option (Stp ((List TApiItem) × Int) (Out ((List TApiItem) × TFaasref46Store) ((List TApiItem)))) :=
 chk (inK .i64 (x73 + 1)) <| some (.next (x133, x73 + 1))

def rScan_b1 (q : TFaasref46Store) (pre : Str) (x71 : (List TApiItem)) (x73 : Int) : Option (Stp ((List TApiItem) × Int) (Out ((List TApiItem) × TFaasref46Store) ((List TApiItem)))) :=
 cnd (decide (x73 < (q.fItems.length : Int))) (chk (inR x73 (q.fItems.length : Int)) <| chk (imp (decide ((pre.length : Int) ≤ (((at' q.fItems x73).fKey).length : Int))) (inC (pre.length : Int) (((at' q.fItems x73).fKey).length : Int))) <| cnd (((decide ((pre.length : Int) ≤ (((at' q.fItems x73).fKey).length : Int))) && (decide ((List.take (Int.toNat (pre.length : Int)) ((at' q.fItems x73).fKey)) = pre)))) (chk (inA 48 (x71.length + ([(at' q.fItems x73)] : List TApiItem).length)) <| rScan_j2 x73 (x71 ++ ([(at' q.fItems x73)] : List TApiItem))) (rScan_j2 x73 x71)) (some (.out (.go x71)))

def rScan_k1 (q : TFaasref46Store) (x107 : (List TApiItem)) : Option ((List TApiItem) × TFaasref46Store) :=
 some (x107, q)

def rScan (F : Nat) (q : TFaasref46Store) (pre : Str) : Option ((List TApiItem) × TFaasref46Store) :=
 cnd (!q.fMade) (some (([] : List TApiItem), q)) (obn (lop (fun σ => rScan_b1 q pre σ.1 σ.2) F (([] : List TApiItem), 0)) (oute fun ν => rScan_k1 q ν))

def rLen (q : TFaasref46Store) : Option (Int × TFaasref46Store) :=
 cnd (!q.fMade) (some (0, q)) (some ((q.fItems.length : Int), q))

def rCells_b1 (a : (List TApiCell)) (b : (List TApiCell)) (x27 : Int) : Option (Stp (Int) (Out (Bool) (Unit))) :=
 cnd (decide (x27 < (a.length : Int))) (chk (inR x27 (a.length : Int)) <| chk (inR x27 (b.length : Int)) <| cnd (!(decide (((at' a x27).fKind) = ((at' b x27).fKind)) && decide (((at' a x27).fInt) = ((at' b x27).fInt)) && decide (((at' a x27).fStr) = ((at' b x27).fStr)) && decide (((at' a x27).fN) = ((at' b x27).fN)))) (some (.out (.ret false))) (chk (inK .i64 (x27 + 1)) <| some (.next (x27 + 1)))) (some (.out (.go ())))

def rCells_k1  : Option (Bool) :=
 some true

def rCells (F : Nat) (a : (List TApiCell)) (b : (List TApiCell)) : Option (Bool) :=
 cnd (!decide ((a.length : Int) = (b.length : Int))) (some false) (obn (lop (fun σ => rCells_b1 a b σ) F 0) (oute fun ν => rCells_k1 ))

def rSameI_b1 (F : Nat) (a : (List TApiItem)) (b : (List TApiItem)) (x35 : Int) : Option (Stp (Int) (Out (Bool) (Unit))) :=
 cnd (decide (x35 < (a.length : Int))) (chk (inR x35 (a.length : Int)) <| chk (inR x35 (b.length : Int)) <| chk (imp (!(!decide (((at' a x35).fKey) = ((at' b x35).fKey)))) (imp (!(!decide (((at' a x35).fVersion) = ((at' b x35).fVersion)))) ((rCells F ((at' a x35).fValue) ((at' b x35).fValue)).isSome))) <| cnd (((!decide (((at' a x35).fKey) = ((at' b x35).fKey))) || ((!decide (((at' a x35).fVersion) = ((at' b x35).fVersion))) || (!(ov (rCells F ((at' a x35).fValue) ((at' b x35).fValue))))))) (some (.out (.ret false))) (chk (inK .i64 (x35 + 1)) <| some (.next (x35 + 1)))) (some (.out (.go ())))

def rSameI_k1  : Option (Bool) :=
 some true

def rSameI (F : Nat) (a : (List TApiItem)) (b : (List TApiItem)) : Option (Bool) :=
 cnd (!decide ((a.length : Int) = (b.length : Int))) (some false) (obn (lop (fun σ => rSameI_b1 F a b σ) F 0) (oute fun ν => rSameI_k1 ))

def lWorks_j3 (x300 : Int) (x545 : Bool) (x546 : Bool) (x547 : Bool) (x548 : Bool) (x549 : Bool) (x550 : TFaasref46Store) (x551 : (List (Str × TApiItem))) (x552 : (List (Str × TApiItem))) : Option (Stp (Int × TFaasref46Store × (List (Str × TApiItem)) × (List (Str × TApiItem))) (Out (Bool) (Unit))) :=
 cnd (x549) (some (.out (.ret false))) (chk (inK .i64 (x300 + 1)) <| some (.next (x300 + 1, x550, x551, x552)))

def lWorks_j2 (F : Nat) (key : Str) (x300 : Int) (x471 : Int) (x472 : Int) (x473 : Bool) (x474 : Bool) (x475 : Bool) (x476 : TFaasref46Store) (x477 : (List (Str × TApiItem))) (x478 : (List (Str × TApiItem))) : Option (Stp (Int × TFaasref46Store × (List (Str × TApiItem)) × (List (Str × TApiItem))) (Out (Bool) (Unit))) :=
 cnd (x475) (some (.out (.ret false))) (obn (kGet (TKvStore.mk x477 x478) key) fun r501 => obn (rGet F x476 key) fun r505 => cnd (!(r501.2.1 == r505.2.1)) (lWorks_j3 x300 true true true true true r505.2.2 r501.2.2.fItems r501.2.2.fChanged) (obn (rSameI F ([r501.1] : List TApiItem) ([r505.1] : List TApiItem)) fun r558 => cnd (!r558) (lWorks_j3 x300 (!r558) (!r558) true true true r505.2.2 r501.2.2.fItems r501.2.2.fChanged) (obn (kScan F r501.2.2 key) fun r564 => obn (rScan F r505.2.2 key) fun r567 => obn (rSameI F r564.1 r567.1) fun r570 => cnd (!r570) (lWorks_j3 x300 (!r558) (!r558) (!r570) (!r570) true r567.2 r564.2.fItems r564.2.fChanged) (obn (kScan F r564.2 ([] : Str)) fun r576 => obn (rScan F r567.2 ([] : Str)) fun r579 => obn (rSameI F r576.1 r579.1) fun r582 => lWorks_j3 x300 (!r558) (!r558) (!r570) (!r570) (!r582) r579.2 r576.2.fItems r576.2.fChanged))))

def lWorks_b1 (F : Nat) (l : (List (List TApiChange))) (key : Str) (x300 : Int) (x301 : TFaasref46Store) (x302 : (List (Str × TApiItem))) (x303 : (List (Str × TApiItem))) : Option (Stp (Int × TFaasref46Store × (List (Str × TApiItem)) × (List (Str × TApiItem))) (Out (Bool) (Unit))) :=
 cnd (decide (x300 < (l.length : Int))) (chk (inR x300 (l.length : Int)) <| obn (kApply F (TKvStore.mk x302 x303) (at' l x300)) fun r481 => obn (rApply F x301 (at' l x300)) fun r484 => cnd (!decide (r481.1 = r484.1)) (lWorks_j2 F key x300 r481.1 r484.1 (!decide (r481.1 = r484.1)) (!decide (r481.1 = r484.1)) true r484.2 r481.2.fItems r481.2.fChanged) (obn (kLen r481.2) fun r490 => obn (rLen r484.2) fun r493 => lWorks_j2 F key x300 r481.1 r484.1 (!decide (r481.1 = r484.1)) (!decide (r481.1 = r484.1)) (!decide (r490.1 = r493.1)) r493.2 r490.2.fItems r490.2.fChanged)) (some (.out (.go ())))

def lWorks_k1 (F : Nat) : Option (Bool) :=
 obn (lAwake F) fun r596 => some r596

def lWorks (F : Nat) (l : (List (List TApiChange))) (key : Str) : Option (Bool) :=
 chk ((lFew F l).isSome) <| cnd (((!(ov (lFew F l))) || (decide (300 < (key.length : Int))))) (obn (lAwake F) fun r6 => some r6) (obn (kNew) fun r10 => obn (rNew) fun r16 => obn (lop (fun σ => lWorks_b1 F l key σ.1 σ.2.1 σ.2.2.1 σ.2.2.2) F (0, r16, r10.fItems, r10.fChanged)) (oute fun ν => lWorks_k1 F ))

end Go.Proofs.YtjfnokmpfekniaaGreatDoor

/-
 Calls that turn entries, in regions that draw; more slices of frozen slices. Plain theorems over any program; no condition.
-/
namespace Go.Proofs.YtjfnokmpfekniaaGreatDoor.Q
open Go Go.RowKit
set_option linter.unusedVariables false
set_option linter.unusedSimpArgs false
section
variable {P : Program} {n : Nat} {c : Cx} {opsA : Array Oper} {Q : Exit → Act → World → Prop} {l : Fr} {H : List Ent} {d : Nat} {ty : TypeId} {pos : String} {af : Array Edge}
theorem ok_callH {f : FuncId} {args : List Operand} {ats : Array TypeId} {rs : List Rp} {r : Rp} {Hin Hout Hr : List Ent} (hcall : ∀ (as1 : Array Value) (w : World), (callFunc f as1).run P w = .ok (.enter f as1) w) (hv : evs l args = some rs)
  (hp : H.Perm (Hin ++ Hr)) (hc : Fn P c.E f rs Hin (fun r' H' => r' = r ∧ H' = Hout)) {H' : List Ent} (hH : Hout ++ Hr = H') : OpOk P n c opsA Q l H { dst := some d, op := .call { callee := .value (.func f), args := args.toArray, argTypes := ats }, type := ty, pos := pos, after := af, guard := none } r H' := fun a w Z K ha hw hK =>
 ⟨fun _ => by
  subst hH
  unfold Oper.wp
  rw [run_callee rfl hcall w]
  refine (hc w Z _ (evs_all ha hv) (hw.perm hp).enter).mono ?_
  rintro e w' ⟨r2, v, Ho, Z', rfl, ⟨rfl, rfl⟩, hr2, hs⟩
  exact hK v w' Z' hs.le hr2 ((hw.perm hp).call hs), fun h => by simp [Region.wanted] at h⟩
end
section
variable {P : Program} {n : Nat} {c : Cx} {ops : Array Oper} {Q : Exit → Act → World → Prop} {rest : List Oper} {l : Fr} {H H' : List Ent} {d : Nat} {d' : Option Nat} {x y z3 : Operand} {ty t t' e : TypeId} {pos : String} {af : Array Edge} {g : Option (Nat × Bool)} {v u : Value} {r : Rp} {sz : Nat}
theorem o_slice_zh {α : Type} {ys : List α} {enc : α → List Rp} {k' : IntKind} {j : Int} (ht : P.underlying t = some (.slice e)) (hz : ∀ w, (sizeOf e).run P w = .ok sz w) (h : ev l x = some (rSl sz (ys.map enc))) (hj : ev l z3 = some (rI k' j)) (hg2 : inC j (ys.length : Int) = true) :
  ORun P n c l H { dst := d', op := .slice t x none (some z3) none, type := ty, pos := pos, after := af, guard := g } (rSl sz ((ys.take j.toNat).map enc)) := fun a w Z ha hw => by
 obtain ⟨A, cap, e1, hc1, hc2, hA, hc⟩ := ha.ev h
 have h2 := (inC_iff hg2).2
 have hj0 : 0 ≤ j := (inC_iff hg2).1
 simp only [List.length_map] at e1 hc1
 have h3 : j ≤ (cap : Int) := by omega
 refine ⟨.slice (if cap = 0 then A else A.map (·.add (0 * sz))) j.toNat cap, ⟨if cap = 0 then A else A.map (·.add (0 * sz)), cap, ?_, ?_, by omega, ?_, fun q cl hq => ?_⟩, by simp [execOp, e1, ha.eval hj, Instr.sliceAt, Instr.slice, run_underlying ht, Instr.sliceBounds, run_sliceBound (m := cap) _ _ hj0 h3, hz]⟩
 ·congr 1
  simp; omega
 ·simp; omega
 ·intro hn
  split at hn
  ·have := hA hn; omega
  ·have := hA (by simpa using hn); omega
 ·rw [List.getElem?_map] at hq
  cases hq' : (List.take j.toNat ys)[q]? with
  | none => rw [hq'] at hq; cases hq
  | some yy =>
   rw [hq'] at hq
   simp only [Option.map_some, Option.some.injEq] at hq; subst hq
   rw [List.getElem?_take] at hq'
   split at hq'
   ·rename_i hlt
    obtain ⟨hl, ad, rfl, hs, hcs⟩ := hc q (enc yy) (by simp [hq'])
    obtain ⟨b, off, spot⟩ := ad
    simp only at hs; subst hs
    have hne : ¬ cap = 0 := by omega
    refine ⟨hl, ⟨b, off + 0 * sz, none⟩, by simp [hne, addm], rfl, fun q' r' hr' => ?_⟩
    obtain ⟨u, hu, hp⟩ := hcs q' r' hr'
    refine ⟨u, ?_, hp⟩
    have : off + 0 * sz + (q * sz + q') = off + (q * sz + q') := by omega
    simp only
    rw [this]; exact hu
   ·cases hq'
end
end Go.Proofs.YtjfnokmpfekniaaGreatDoor.Q
