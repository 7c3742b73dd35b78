/-
  Texts of the proof, put together: WVb, PVc, WVc, PVd, WVd, PVe, WVe, PM, QT, QN, QU, QM, QK, PKa, QI, Iter, QKs.
-/
import Derived.Test.YtjfnokmpfekniaaGreatDoorMW2
import Derived.Laws.Cover3
import Derived.MapKept
import Derived.Maps.RangeRun
import Derived.Sort.KeysCollected
import Derived.Shelf.SlIter.Nil
import Derived.Shelf.SortM.Plain
import Derived.Shelf.SortM.SortNone
import Derived.Test.YtjfnokmpfekniaaGreatDoorProg
/-
  Walks, printed by a small program of ours (gq.py).
-/
namespace Go.Proofs.YtjfnokmpfekniaaGreatDoor.Q
open Go Go.RowKit
set_option linter.unusedVariables false
set_option linter.unusedSimpArgs false
set_option maxRecDepth 100000
set_option maxHeartbeats 4000000
@[reducible] def eTValueOpen (x : TValueOpen) : List Rp := [rB x.fPairs, rI .i64 x.fLeft, rB x.fKey, rS x.fLast, rB x.fStarted]
theorem eTValueOpen_len (x : TValueOpen) : (eTValueOpen x).length = 5 := rfl
theorem eTValueOpen_one (x : TValueOpen) : (eTValueOpen x).all (·.one) = true := rfl
@[reducible] def eTValueShape (x : TValueShape) : List Rp := [rI .i64 x.fDepth, rI .i64 x.fBytes, rB x.fOutside, rB x.fLong]
theorem info166 : ∃ inf, Tryz.prog.info? 166 = some inf ∧ inf.zero = some (.agg #[(.bool false), (.int .i64 0), (.bool false), (.string ⟨#[]⟩), (.bool false)]) ∧ inf.size = 5 ∧ inf.bytes = 48 := by
  have key : (Tryz.prog.info? 166).map (fun i => (i.zero, i.size, i.bytes)) = some (some (.agg #[(.bool false), (.int .i64 0), (.bool false), (.string ⟨#[]⟩), (.bool false)]), 5, 48) := by kernel_rfl
  obtain ⟨inf, h1, h2⟩ := Option.map_eq_some_iff.1 key
  simp only [Prod.mk.injEq] at h2
  exact ⟨inf, h1, h2.1, h2.2.1, h2.2.2⟩
theorem built166 (parts : List (Nat × Value)) : Tryz.prog.built 166 parts = Instr.fill (fun i => (#[(0, 1), (1, 1), (2, 1), (3, 1), (4, 1)] : Array (Nat × Nat))[i]?) #[(.bool false), (.int .i64 0), (.bool false), (.string ⟨#[]⟩), (.bool false)] parts := by kernel_rfl
theorem o_build166_0_1_2 {n : Nat} {c : Cx} {l : Fr} {H : List Ent} {d : Option Nat} {ty : TypeId} {pos : String} {af : Array Edge} {g : Option (Nat × Bool)} {x0 : Operand} {r0 : Rp} (h0 : ev l x0 = some r0) (u0 : r0.one = true) {x1 : Operand} {r1 : Rp} (h1 : ev l x1 = some r1) (u1 : r1.one = true) {x2 : Operand} {r2 : Rp} (h2 : ev l x2 = some r2) (u2 : r2.one = true) : ORun Tryz.prog n c l H { dst := d, op := .build 166 #[(0, x0), (1, x1), (2, x2)], type := ty, pos := pos, after := af, guard := g } (rAgg [r0, r1, r2, rS ([] : Str), rB false]) := fun a w Z ha _ => by
  have p0 := ha.ev h0
  have c0 := cells_one (r0.hone u0 Z _ p0)
  have p1 := ha.ev h1
  have c1 := cells_one (r1.hone u1 Z _ p1)
  have p2 := ha.ev h2
  have c2 := cells_one (r2.hone u2 Z _ p2)
  have hb : Tryz.prog.built 166 [(0, a.eval x0), (1, a.eval x1), (2, a.eval x2)] = some #[a.eval x0, a.eval x1, a.eval x2, (.string ⟨#[]⟩), (.bool false)] := by
    rw [built166]
    generalize a.eval x0 = v0 at *
    generalize a.eval x1 = v1 at *
    generalize a.eval x2 = v2 at *
    simp [Instr.fill, c0, c1, c2]
  refine ⟨.agg #[a.eval x0, a.eval x1, a.eval x2, (.string ⟨#[]⟩), (.bool false)], ⟨[a.eval x0, a.eval x1, a.eval x2, (.string ⟨#[]⟩), (.bool false)], rfl, p0, p1, p2, rfl, rfl, trivial⟩, ?_⟩
  have := run_build w 166 #[(0, a.eval x0), (1, a.eval x1), (2, a.eval x2)] _ (by simpa using hb)
  simp [execOp, this]
theorem nValid_w (n : Int) (r : Bool) (h : nValid n = some r) : Fn Tryz.prog GE 99 [rI .i64 n] [] (fun R H => R = rB r ∧ H = []) := by
 refine enter (n := 9) Tryz.func99 rfl Tryz.ntmps99 rfl (fun w Z => ?_)
 refine wc_as (l' := [(0, rI .i64 n)]) (H' := []) rfl rfl ?_
 unfold nValid at h
 refine wc_sr ?_
 refine wv (r := rB false) (o_assign rfl) ?_
 refine wl_x ?_
 refine wc_seq_mid [(2, rB ((decide ((-1000000000000) ≤ n)) && (decide (n ≤ 1000000000000))))] [] ?_ ?_
 ·refine wc_region ?_
  refine wm rfl ?_
  refine wv (o_le rfl rfl) ?_
  refine wm rfl ?_
  refine bsplit (decide ((-1000000000000) ≤ n)) (fun c1 => ?_) (fun c1 => ?_)
  ·refine wo c1 ?_
   refine wm rfl ?_
   refine wo c1 ?_
   refine wv (o_le rfl rfl) ?_
   refine wpt rfl c1 rfl ?_
   refine wa rfl ?_
   refine wl_nil ?_
   exact wtc c1
  ·refine wf c1 ?_
   refine wf c1 ?_
   refine wv (r := rB false) (o_pick_f (b := decide ((-1000000000000) ≤ n)) rfl c1 rfl) ?_
   refine wa rfl ?_
   refine wl_nil ?_
   exact wtc c1
 refine wc_ret ?_
 obtain rfl := some_e h
 exact wk_ret (r_1 Tryz.results99 (rv_t rfl)) sN ⟨rfl, rfl⟩

theorem vText_w (F : Nat) (s : Str) (r : Bool) (h : vText F s = some r) : Fn Tryz.prog GE 163 [rS s] [] (fun R H => R = rB r ∧ H = []) := by
 refine enter (n := 20) Tryz.func163 rfl Tryz.ntmps163 rfl (fun w Z => ?_)
 refine wc_as (l' := [(0, rS s)]) (H' := []) rfl rfl ?_
 unfold vText at h
 refine wc_sr ?_
 refine wv (r := rB false) (o_assign rfl) ?_
 refine wl_x ?_
 refine wc_seq ?_
 refine wc_sr ?_
 refine wm rfl ?_
 refine wv (o_len_s Tryz.underlying9 rfl) ?_
 refine wv (r := rI .i64 0) (o_move rfl) ?_
 refine wl_x ?_
 refine wc_block ?_
 obtain ⟨o34, eo35, hK36⟩ := obn_e h
 refine wc_loop2 (S := Nat × (Int) × (Unit)) (V := (Unit) × (Unit)) 0 (fun σ => lop (fun σ => vText_b1 s σ) σ.1 σ.2.1 = some o34) (fun σ => [(0, rS s), (5, rI .i64 (s.length : Int)), (6, rI .i64 σ.2.1)]) (fun σ => []) (fun σ => σ.1) (F, 0, ()) eo35 (Sub.c rfl (Sub.c rfl (Sub.c rfl Sub.nil))) sN (fun σ => vText_k1  = some r) (fun σ => []) (fun σ => []) ?_ ?_
 ·rintro ⟨n42, x22, ⟨⟩⟩ hi40
  refine wc_as (l' := [(0, rS s), (5, rI .i64 (s.length : Int)), (6, rI .i64 x22)]) (H' := []) rfl rfl ?_
  obtain ⟨m39, rfl, t37, h41, ht38⟩ := lop_e hi40
  replace h41 : vText_b1 s x22 = some t37 := h41
  unfold vText_b1 at h41
  refine wc_sr ?_
  refine wv (o_lt rfl rfl) ?_
  refine wl_x ?_
  refine wc_seq ?_
  refine wc_cond (b := decide (x22 < (s.length : Int))) rfl (fun c43 => ?_) (fun c43 => ?_)
  ·have h44 := cnd_t c43 h41
   refine wc_skip ?_
   refine wk_x ?_
   refine wc_seq ?_
   refine wc_block ?_
   refine wc_sr ?_
   refine wm rfl ?_
   refine wa rfl ?_
   refine wl_x ?_
   obtain ⟨g45, h46⟩ := chk_e h44
   refine wc_seq_mid [(0, rS s), (5, rI .i64 (s.length : Int)), (6, rI .i64 x22), (18, rB ((decide ((bat s x22) < 32)) || (decide (126 < (bat s x22)))))] [] ?_ ?_
   ·refine wc_region ?_
    refine wm rfl ?_
    refine wm rfl ?_
    refine wv (o_index_b Tryz.underlying9 rfl rfl g45) ?_
    refine wv (o_lt rfl rfl) ?_
    refine wm rfl ?_
    refine bsplit (decide ((bat s x22) < 32)) (fun c47 => ?_) (fun c47 => ?_)
    ·refine wf c47 ?_
     refine wf c47 ?_
     refine wf c47 ?_
     refine wf c47 ?_
     refine wv (r := rB true) (o_pick_t (b := decide ((bat s x22) < 32)) rfl c47 rfl) ?_
     refine wl_nil ?_
     exact wtc c47
    ·refine wo c47 ?_
     refine wm rfl ?_
     refine wo c47 ?_
     refine wm rfl ?_
     refine wo c47 ?_
     refine wv (o_index_b Tryz.underlying9 rfl rfl g45) ?_
     refine wo c47 ?_
     refine wv (o_gt rfl rfl) ?_
     refine wpf rfl c47 rfl ?_
     refine wl_nil ?_
     exact wtc c47
   refine wc_cond (b := ((decide ((bat s x22) < 32)) || (decide (126 < (bat s x22))))) rfl (fun c48 => ?_) (fun c48 => ?_)
   ·have h49 := cnd_t c48 h46
    refine wc_sr ?_
    refine wv (r := rB false) (o_assign rfl) ?_
    refine wl_x ?_
    refine wc_ret ?_
    refine wk_in_ret ?_
    refine wk_then_ret ?_
    refine wk_then_ret ?_
    refine wk_cut_ret ?_
    have h50 := stp_ret h49 ht38 hK36
    refine wk_in_ret ?_
    refine wk_then_ret ?_
    obtain rfl := some_e h50
    exact wk_ret (r_1 Tryz.results163 (rv_t rfl)) sN ⟨rfl, rfl⟩
   ·have h51 := cnd_f c48 h46
    refine wc_skip ?_
    refine wk_in_norm ?_
    refine wk_x ?_
    refine wc_region ?_
    obtain ⟨g52, h53⟩ := chk_e h51
    refine wv (o_add rfl rfl g52) ?_
    refine wm rfl ?_
    refine wl_nil ?_
    have h54 := stp_next h53 ht38
    exact wk_then (wk_some (m39, x22 + 1, ()) ⟨h54, Nat.lt_succ_self _⟩ (Sub.c rfl (Sub.c rfl (Sub.c rfl Sub.nil))) sN)
  ·have h55 := cnd_f c43 h41
   refine wc_exit ?_
   refine wk_then_exit ?_
   have h56 := stp_go h55 ht38 hK36
   exact wk_then_exit (wk_cut_hit (wk_some ((), ()) h56 Sub.nil sN))
 ·rintro ⟨⟨⟩, ⟨⟩⟩ h57
  refine wk_as (l' := []) (H' := []) rfl rfl ?_
  replace h57 : vText_k1  = some r := h57
  unfold vText_k1 at h57
  refine wk_in_hit ?_
  refine wk_x ?_
  refine wc_sr ?_
  refine wv (r := rB true) (o_assign rfl) ?_
  refine wl_x ?_
  refine wc_ret ?_
  obtain rfl := some_e h57
  exact wk_ret (r_1 Tryz.results163 (rv_t rfl)) sN ⟨rfl, rfl⟩

theorem vQuoted_w (s : Str) (r : Int) (h : vQuoted s = some r) : Fn Tryz.prog GE 145 [rS s] [] (fun R H => R = rI .i64 r ∧ H = []) := by
 refine enter (n := 12) Tryz.func145 rfl Tryz.ntmps145 rfl (fun w Z => ?_)
 refine wc_as (l' := [(0, rS s)]) (H' := []) rfl rfl ?_
 unfold vQuoted at h
 refine wc_sr ?_
 refine wv (r := rI .i64 0) (o_assign rfl) ?_
 refine wl_y ?_
 refine wm rfl ?_
 refine wv (o_len_s Tryz.underlying9 rfl) ?_
 obtain ⟨g1, h2⟩ := chk_e h
 refine wv (o_add rfl rfl g1) ?_
 refine wm rfl ?_
 refine w_call0 (rs := [rS s, rS ([34] : Str)]) (r := rI .i64 (Lib.countByte s 34 : Int)) Tryz.call164 rfl (count_q s 34) rfl rfl ?_
 obtain ⟨g3, h4⟩ := chk_e h2
 refine wv (o_add rfl rfl g3) ?_
 refine wm rfl ?_
 refine w_call0 (rs := [rS s, rS ([92] : Str)]) (r := rI .i64 (Lib.countByte s 92 : Int)) Tryz.call164 rfl (count_q s 92) rfl rfl ?_
 obtain ⟨g5, h6⟩ := chk_e h4
 refine wv (o_add rfl rfl g5) ?_
 refine wa rfl ?_
 refine wl_x ?_
 refine wc_ret ?_
 obtain rfl := some_e h6
 exact wk_ret (r_1 Tryz.results145 (rv_t rfl)) sN ⟨rfl, rfl⟩

theorem vPlain_w (F : Nat) (c : TApiCell) (r : Bool) (h : vPlain F c = some r) : Fn Tryz.prog GE 144 [rAgg (eTApiCell c)] [] (fun R H => R = rB r ∧ H = []) := by
 refine enter (n := 81) Tryz.func144 rfl Tryz.ntmps144 rfl (fun w Z => ?_)
 refine wc_as (l' := [(0, rAgg (eTApiCell c))]) (H' := []) rfl rfl ?_
 unfold vPlain at h
 refine wc_sr ?_
 refine w_box_agg rfl rfl (fun b1 => ?_)
 refine wv (r := rB false) (o_assign rfl) ?_
 refine wl_x ?_
 refine wc_seq ?_
 refine wc_sr ?_
 refine wv (o_fieldAddr Tryz.underlying78 rfl Tryz.sizeOf76 rfl rfl) ?_
 refine wv (o_load (i := 0) Tryz.isAgg76 rfl rfl rfl) ?_
 refine wl_x ?_
 refine wc_block ?_
 refine wc_sr ?_
 refine wv (o_eq rfl rfl) ?_
 refine wa rfl ?_
 refine wl_x ?_
 refine wc_cond (b := decide (c.fKind = 1)) rfl (fun c2 => ?_) (fun c2 => ?_)
 ·have h3 := cnd_t c2 h
  refine wc_seq_mid [(2, rB ((decide (c.fInt = 0)) && ((decide (c.fStr = ([] : Str))) && (decide (c.fN = 0)))))] [] ?_ ?_
  ·refine wc_region ?_
   refine wv (o_fieldAddr Tryz.underlying78 rfl Tryz.sizeOf3 rfl rfl) ?_
   refine wv (o_load (i := 0) Tryz.isAgg3 rfl rfl rfl) ?_
   refine wv (o_eq rfl rfl) ?_
   refine wm rfl ?_
   refine bsplit (decide (c.fInt = 0)) (fun c4 => ?_) (fun c4 => ?_)
   ·refine wo c4 ?_
    refine wv (o_fieldAddr Tryz.underlying78 rfl Tryz.sizeOf9 rfl rfl) ?_
    refine wo c4 ?_
    refine wv (o_load (i := 0) Tryz.isAgg9 rfl rfl rfl) ?_
    refine wo c4 ?_
    refine wv (o_seq rfl rfl) ?_
    refine wpt rfl c4 rfl ?_
    refine wm rfl ?_
    refine bsplit (decide (c.fStr = ([] : Str))) (fun c5 => ?_) (fun c5 => ?_)
    ·refine wo c5 ?_
     refine wv (o_fieldAddr Tryz.underlying78 rfl Tryz.sizeOf3 rfl rfl) ?_
     refine wo c5 ?_
     refine wv (o_load (i := 0) Tryz.isAgg3 rfl rfl rfl) ?_
     refine wo c5 ?_
     refine wv (o_eq rfl rfl) ?_
     refine wpt rfl c5 rfl ?_
     refine wa rfl ?_
     refine wl_nil ?_
     exact wtc (And.intro c4 c5)
    ·refine wf c5 ?_
     refine wf c5 ?_
     refine wf c5 ?_
     refine wv (r := rB false) (o_pick_f (b := decide (c.fStr = ([] : Str))) rfl c5 rfl) ?_
     refine wa rfl ?_
     refine wl_nil ?_
     exact wtc (And.intro c4 c5)
   ·refine wf c4 ?_
    refine wf c4 ?_
    refine wf c4 ?_
    refine wv (r := rB false) (o_pick_f (b := decide (c.fInt = 0)) rfl c4 rfl) ?_
    refine wm rfl ?_
    refine wl_off (b := false) rfl rfl rfl rfl ?_
    refine wl_off (b := false) rfl rfl rfl rfl ?_
    refine wl_off (b := false) rfl rfl rfl rfl ?_
    refine wv (r := rB false) (o_pick_f (b := false) rfl rfl rfl) ?_
    refine wa rfl ?_
    refine wl_nil ?_
    exact wtc c4
  refine wc_ret ?_
  refine wk_in_ret ?_
  refine wk_then_ret ?_
  obtain rfl := some_e h3
  exact wk_ret (r_1 Tryz.results144 (rv_t rfl)) sN ⟨rfl, rfl⟩
 ·have h6 := cnd_f c2 h
  refine wc_sr ?_
  refine wv (o_eq rfl rfl) ?_
  refine wa rfl ?_
  refine wl_x ?_
  refine wc_cond (b := decide (c.fKind = 2)) rfl (fun c7 => ?_) (fun c7 => ?_)
  ·have h8 := cnd_t c7 h6
   refine wc_seq_mid [(2, rB (bif decide (c.fInt = 0) then ((decide (c.fStr = ([] : Str))) && (decide (c.fN = 0))) else ((decide (c.fInt = 1)) && ((decide (c.fStr = ([] : Str))) && (decide (c.fN = 0))))))] [] ?_ ?_
   ·refine wc_region ?_
    refine wv (o_fieldAddr Tryz.underlying78 rfl Tryz.sizeOf3 rfl rfl) ?_
    refine wv (o_load (i := 0) Tryz.isAgg3 rfl rfl rfl) ?_
    refine wv (o_eq rfl rfl) ?_
    refine wm rfl ?_
    refine bsplit (decide (c.fInt = 0)) (fun c9 => ?_) (fun c9 => ?_)
    ·refine wf c9 ?_
     refine wf c9 ?_
     refine wf c9 ?_
     refine wv (r := rB true) (o_pick_t (b := decide (c.fInt = 0)) rfl c9 rfl) ?_
     refine wm rfl ?_
     refine wl_on (b := true) rfl rfl rfl ?_
     refine wv (o_fieldAddr Tryz.underlying78 rfl Tryz.sizeOf9 rfl rfl) ?_
     refine wl_on (b := true) rfl rfl rfl ?_
     refine wv (o_load (i := 0) Tryz.isAgg9 rfl rfl rfl) ?_
     refine wl_on (b := true) rfl rfl rfl ?_
     refine wv (o_seq rfl rfl) ?_
     refine wv (r := rB (decide (c.fStr = ([] : Str)))) (o_pick_t (b := true) rfl rfl rfl) ?_
     refine wm rfl ?_
     refine bsplit (decide (c.fStr = ([] : Str))) (fun c10 => ?_) (fun c10 => ?_)
     ·refine wo c10 ?_
      refine wv (o_fieldAddr Tryz.underlying78 rfl Tryz.sizeOf3 rfl rfl) ?_
      refine wo c10 ?_
      refine wv (o_load (i := 0) Tryz.isAgg3 rfl rfl rfl) ?_
      refine wo c10 ?_
      refine wv (o_eq rfl rfl) ?_
      refine wpt rfl c10 rfl ?_
      refine wa rfl ?_
      refine wl_nil ?_
      exact wtc (And.intro c9 c10)
     ·refine wf c10 ?_
      refine wf c10 ?_
      refine wf c10 ?_
      refine wv (r := rB false) (o_pick_f (b := decide (c.fStr = ([] : Str))) rfl c10 rfl) ?_
      refine wa rfl ?_
      refine wl_nil ?_
      exact wtc (And.intro c9 c10)
    ·refine wo c9 ?_
     refine wv (o_fieldAddr Tryz.underlying78 rfl Tryz.sizeOf3 rfl rfl) ?_
     refine wo c9 ?_
     refine wv (o_load (i := 0) Tryz.isAgg3 rfl rfl rfl) ?_
     refine wo c9 ?_
     refine wv (o_eq rfl rfl) ?_
     refine wpf rfl c9 rfl ?_
     refine wm rfl ?_
     refine bsplit (decide (c.fInt = 1)) (fun c11 => ?_) (fun c11 => ?_)
     ·refine wo c11 ?_
      refine wv (o_fieldAddr Tryz.underlying78 rfl Tryz.sizeOf9 rfl rfl) ?_
      refine wo c11 ?_
      refine wv (o_load (i := 0) Tryz.isAgg9 rfl rfl rfl) ?_
      refine wo c11 ?_
      refine wv (o_seq rfl rfl) ?_
      refine wpt rfl c11 rfl ?_
      refine wm rfl ?_
      refine bsplit (decide (c.fStr = ([] : Str))) (fun c12 => ?_) (fun c12 => ?_)
      ·refine wo c12 ?_
       refine wv (o_fieldAddr Tryz.underlying78 rfl Tryz.sizeOf3 rfl rfl) ?_
       refine wo c12 ?_
       refine wv (o_load (i := 0) Tryz.isAgg3 rfl rfl rfl) ?_
       refine wo c12 ?_
       refine wv (o_eq rfl rfl) ?_
       refine wpt rfl c12 rfl ?_
       refine wa rfl ?_
       refine wl_nil ?_
       exact wtc (And.intro c9 (And.intro c11 c12))
      ·refine wf c12 ?_
       refine wf c12 ?_
       refine wf c12 ?_
       refine wv (r := rB false) (o_pick_f (b := decide (c.fStr = ([] : Str))) rfl c12 rfl) ?_
       refine wa rfl ?_
       refine wl_nil ?_
       exact wtc (And.intro c9 (And.intro c11 c12))
     ·refine wf c11 ?_
      refine wf c11 ?_
      refine wf c11 ?_
      refine wv (r := rB false) (o_pick_f (b := decide (c.fInt = 1)) rfl c11 rfl) ?_
      refine wm rfl ?_
      refine wl_off (b := false) rfl rfl rfl rfl ?_
      refine wl_off (b := false) rfl rfl rfl rfl ?_
      refine wl_off (b := false) rfl rfl rfl rfl ?_
      refine wv (r := rB false) (o_pick_f (b := false) rfl rfl rfl) ?_
      refine wa rfl ?_
      refine wl_nil ?_
      exact wtc (And.intro c9 c11)
   refine wc_ret ?_
   refine wk_in_ret ?_
   refine wk_then_ret ?_
   obtain rfl := some_e h8
   exact wk_ret (r_1 Tryz.results144 (rv_t rfl)) sN ⟨rfl, rfl⟩
  ·have h13 := cnd_f c7 h6
   refine wc_sr ?_
   refine wv (o_eq rfl rfl) ?_
   refine wa rfl ?_
   refine wl_x ?_
   refine wc_cond (b := decide (c.fKind = 3)) rfl (fun c14 => ?_) (fun c14 => ?_)
   ·have h15 := cnd_t c14 h13
    refine wc_seq_mid [(2, rB ((decide (c.fStr = ([] : Str))) && (decide (c.fN = 0))))] [] ?_ ?_
    ·refine wc_region ?_
     refine wv (o_fieldAddr Tryz.underlying78 rfl Tryz.sizeOf9 rfl rfl) ?_
     refine wv (o_load (i := 0) Tryz.isAgg9 rfl rfl rfl) ?_
     refine wv (o_seq rfl rfl) ?_
     refine wm rfl ?_
     refine bsplit (decide (c.fStr = ([] : Str))) (fun c16 => ?_) (fun c16 => ?_)
     ·refine wo c16 ?_
      refine wv (o_fieldAddr Tryz.underlying78 rfl Tryz.sizeOf3 rfl rfl) ?_
      refine wo c16 ?_
      refine wv (o_load (i := 0) Tryz.isAgg3 rfl rfl rfl) ?_
      refine wo c16 ?_
      refine wv (o_eq rfl rfl) ?_
      refine wpt rfl c16 rfl ?_
      refine wa rfl ?_
      refine wl_nil ?_
      exact wtc c16
     ·refine wf c16 ?_
      refine wf c16 ?_
      refine wf c16 ?_
      refine wv (r := rB false) (o_pick_f (b := decide (c.fStr = ([] : Str))) rfl c16 rfl) ?_
      refine wa rfl ?_
      refine wl_nil ?_
      exact wtc c16
    refine wc_ret ?_
    refine wk_in_ret ?_
    refine wk_then_ret ?_
    obtain rfl := some_e h15
    exact wk_ret (r_1 Tryz.results144 (rv_t rfl)) sN ⟨rfl, rfl⟩
   ·have h17 := cnd_f c14 h13
    refine wc_sr ?_
    refine wv (o_eq rfl rfl) ?_
    refine wa rfl ?_
    refine wl_x ?_
    refine wc_cond (b := decide (c.fKind = 4)) rfl (fun c18 => ?_) (fun c18 => ?_)
    ·have h19 := cnd_t c18 h17
     obtain ⟨g20, h21⟩ := chk_e h19
     refine wc_seq_mid [(2, rB ((decide (c.fInt = 0)) && ((decide (c.fN = 0)) && (ov (vText F c.fStr)))))] [] ?_ ?_
     ·refine wc_region ?_
      refine wv (o_fieldAddr Tryz.underlying78 rfl Tryz.sizeOf3 rfl rfl) ?_
      refine wv (o_load (i := 0) Tryz.isAgg3 rfl rfl rfl) ?_
      refine wv (o_eq rfl rfl) ?_
      refine wm rfl ?_
      refine bsplit (decide (c.fInt = 0)) (fun c22 => ?_) (fun c22 => ?_)
      ·refine wo c22 ?_
       refine wv (o_fieldAddr Tryz.underlying78 rfl Tryz.sizeOf3 rfl rfl) ?_
       refine wo c22 ?_
       refine wv (o_load (i := 0) Tryz.isAgg3 rfl rfl rfl) ?_
       refine wo c22 ?_
       refine wv (o_eq rfl rfl) ?_
       refine wpt rfl c22 rfl ?_
       refine wm rfl ?_
       refine bsplit (decide (c.fN = 0)) (fun c23 => ?_) (fun c23 => ?_)
       ·refine wo c23 ?_
        refine wv (o_fieldAddr Tryz.underlying78 rfl Tryz.sizeOf9 rfl rfl) ?_
        refine wo c23 ?_
        refine wv (o_load (i := 0) Tryz.isAgg9 rfl rfl rfl) ?_
        refine wo c23 ?_
        refine wc0 Tryz.call163 (vText_w F c.fStr (ov (vText F c.fStr)) (ov_e (imp_t (imp_t g20 c22) c23))) rfl ?_
        refine wpt rfl c23 rfl ?_
        refine wa rfl ?_
        refine wl_nil ?_
        exact wtc (And.intro c22 c23)
       ·refine wf c23 ?_
        refine wf c23 ?_
        refine wf c23 ?_
        refine wv (r := rB false) (o_pick_f (b := decide (c.fN = 0)) rfl c23 rfl) ?_
        refine wa rfl ?_
        refine wl_nil ?_
        exact wtc (And.intro c22 c23)
      ·refine wf c22 ?_
       refine wf c22 ?_
       refine wf c22 ?_
       refine wv (r := rB false) (o_pick_f (b := decide (c.fInt = 0)) rfl c22 rfl) ?_
       refine wm rfl ?_
       refine wl_off (b := false) rfl rfl rfl rfl ?_
       refine wl_off (b := false) rfl rfl rfl rfl ?_
       refine wl_off (b := false) rfl rfl rfl rfl ?_
       refine wv (r := rB false) (o_pick_f (b := false) rfl rfl rfl) ?_
       refine wa rfl ?_
       refine wl_nil ?_
       exact wtc c22
     refine wc_ret ?_
     refine wk_in_ret ?_
     refine wk_then_ret ?_
     obtain rfl := some_e h21
     exact wk_ret (r_1 Tryz.results144 (rv_t rfl)) sN ⟨rfl, rfl⟩
    ·have h24 := cnd_f c18 h17
     refine wc_seq ?_
     refine wc_sr ?_
     refine wv (o_eq rfl rfl) ?_
     refine wa rfl ?_
     refine wl_x ?_
     refine wc_cond (b := decide (c.fKind = 5)) rfl (fun c25 => ?_) (fun c25 => ?_)
     ·have h26 := cnd_t c25 h24
      refine wc_skip ?_
      refine wk_x ?_
      refine wc_cond_t rfl c25 ?_
      refine wc_seq_mid [(2, rB ((decide (c.fInt = 0)) && ((decide (c.fStr = ([] : Str))) && (decide (0 ≤ c.fN)))))] [] ?_ ?_
      ·refine wc_region ?_
       refine wv (o_fieldAddr Tryz.underlying78 rfl Tryz.sizeOf3 rfl rfl) ?_
       refine wv (o_load (i := 0) Tryz.isAgg3 rfl rfl rfl) ?_
       refine wv (o_eq rfl rfl) ?_
       refine wm rfl ?_
       refine bsplit (decide (c.fInt = 0)) (fun c27 => ?_) (fun c27 => ?_)
       ·refine wo c27 ?_
        refine wv (o_fieldAddr Tryz.underlying78 rfl Tryz.sizeOf9 rfl rfl) ?_
        refine wo c27 ?_
        refine wv (o_load (i := 0) Tryz.isAgg9 rfl rfl rfl) ?_
        refine wo c27 ?_
        refine wv (o_seq rfl rfl) ?_
        refine wpt rfl c27 rfl ?_
        refine wm rfl ?_
        refine bsplit (decide (c.fStr = ([] : Str))) (fun c28 => ?_) (fun c28 => ?_)
        ·refine wo c28 ?_
         refine wv (o_fieldAddr Tryz.underlying78 rfl Tryz.sizeOf3 rfl rfl) ?_
         refine wo c28 ?_
         refine wv (o_load (i := 0) Tryz.isAgg3 rfl rfl rfl) ?_
         refine wo c28 ?_
         refine wv (o_ge rfl rfl) ?_
         refine wpt rfl c28 rfl ?_
         refine wa rfl ?_
         refine wl_nil ?_
         exact wtc (And.intro c27 c28)
        ·refine wf c28 ?_
         refine wf c28 ?_
         refine wf c28 ?_
         refine wv (r := rB false) (o_pick_f (b := decide (c.fStr = ([] : Str))) rfl c28 rfl) ?_
         refine wa rfl ?_
         refine wl_nil ?_
         exact wtc (And.intro c27 c28)
       ·refine wf c27 ?_
        refine wf c27 ?_
        refine wf c27 ?_
        refine wv (r := rB false) (o_pick_f (b := decide (c.fInt = 0)) rfl c27 rfl) ?_
        refine wm rfl ?_
        refine wl_off (b := false) rfl rfl rfl rfl ?_
        refine wl_off (b := false) rfl rfl rfl rfl ?_
        refine wl_off (b := false) rfl rfl rfl rfl ?_
        refine wv (r := rB false) (o_pick_f (b := false) rfl rfl rfl) ?_
        refine wa rfl ?_
        refine wl_nil ?_
        exact wtc c27
      refine wc_ret ?_
      refine wk_in_ret ?_
      refine wk_then_ret ?_
      obtain rfl := some_e h26
      exact wk_ret (r_1 Tryz.results144 (rv_t rfl)) sN ⟨rfl, rfl⟩
     ·have h29 := cnd_f c25 h24
      refine wc_region ?_
      refine wv (o_eq rfl rfl) ?_
      refine wa rfl ?_
      refine wl_x ?_
      refine wc_cond (b := decide (c.fKind = 6)) rfl (fun c30 => ?_) (fun c30 => ?_)
      ·have h31 := cnd_t c30 h29
       refine wc_seq_mid [(2, rB ((decide (c.fInt = 0)) && ((decide (c.fStr = ([] : Str))) && (decide (0 ≤ c.fN)))))] [] ?_ ?_
       ·refine wc_region ?_
        refine wv (o_fieldAddr Tryz.underlying78 rfl Tryz.sizeOf3 rfl rfl) ?_
        refine wv (o_load (i := 0) Tryz.isAgg3 rfl rfl rfl) ?_
        refine wv (o_eq rfl rfl) ?_
        refine wm rfl ?_
        refine bsplit (decide (c.fInt = 0)) (fun c32 => ?_) (fun c32 => ?_)
        ·refine wo c32 ?_
         refine wv (o_fieldAddr Tryz.underlying78 rfl Tryz.sizeOf9 rfl rfl) ?_
         refine wo c32 ?_
         refine wv (o_load (i := 0) Tryz.isAgg9 rfl rfl rfl) ?_
         refine wo c32 ?_
         refine wv (o_seq rfl rfl) ?_
         refine wpt rfl c32 rfl ?_
         refine wm rfl ?_
         refine bsplit (decide (c.fStr = ([] : Str))) (fun c33 => ?_) (fun c33 => ?_)
         ·refine wo c33 ?_
          refine wv (o_fieldAddr Tryz.underlying78 rfl Tryz.sizeOf3 rfl rfl) ?_
          refine wo c33 ?_
          refine wv (o_load (i := 0) Tryz.isAgg3 rfl rfl rfl) ?_
          refine wo c33 ?_
          refine wv (o_ge rfl rfl) ?_
          refine wpt rfl c33 rfl ?_
          refine wa rfl ?_
          refine wl_nil ?_
          exact wtc (And.intro c32 c33)
         ·refine wf c33 ?_
          refine wf c33 ?_
          refine wf c33 ?_
          refine wv (r := rB false) (o_pick_f (b := decide (c.fStr = ([] : Str))) rfl c33 rfl) ?_
          refine wa rfl ?_
          refine wl_nil ?_
          exact wtc (And.intro c32 c33)
        ·refine wf c32 ?_
         refine wf c32 ?_
         refine wf c32 ?_
         refine wv (r := rB false) (o_pick_f (b := decide (c.fInt = 0)) rfl c32 rfl) ?_
         refine wm rfl ?_
         refine wl_off (b := false) rfl rfl rfl rfl ?_
         refine wl_off (b := false) rfl rfl rfl rfl ?_
         refine wl_off (b := false) rfl rfl rfl rfl ?_
         refine wv (r := rB false) (o_pick_f (b := false) rfl rfl rfl) ?_
         refine wa rfl ?_
         refine wl_nil ?_
         exact wtc c32
       refine wc_ret ?_
       refine wk_in_ret ?_
       refine wk_then_ret ?_
       obtain rfl := some_e h31
       exact wk_ret (r_1 Tryz.results144 (rv_t rfl)) sN ⟨rfl, rfl⟩
      ·have h34 := cnd_f c30 h29
       refine wc_skip ?_
       refine wk_in_norm ?_
       refine wk_x ?_
       refine wc_sr ?_
       refine wv (r := rB false) (o_assign rfl) ?_
       refine wl_x ?_
       refine wc_ret ?_
       obtain rfl := some_e h34
       exact wk_ret (r_1 Tryz.results144 (rv_t rfl)) (sS sN) ⟨rfl, rfl⟩

theorem vSize_w (c : TApiCell) (r : Int) (h : vSize c = some r) : Fn Tryz.prog GE 146 [rAgg (eTApiCell c)] [] (fun R H => R = rI .i64 r ∧ H = []) := by
 refine enter (n := 28) Tryz.func146 rfl Tryz.ntmps146 rfl (fun w Z => ?_)
 refine wc_as (l' := [(0, rAgg (eTApiCell c))]) (H' := []) rfl rfl ?_
 unfold vSize at h
 refine wc_sr ?_
 refine w_box_agg rfl rfl (fun b1 => ?_)
 refine wv (r := rI .i64 0) (o_assign rfl) ?_
 refine wl_x ?_
 refine wc_seq ?_
 refine wc_sr ?_
 refine wv (o_fieldAddr Tryz.underlying78 rfl Tryz.sizeOf76 rfl rfl) ?_
 refine wv (o_load (i := 0) Tryz.isAgg76 rfl rfl rfl) ?_
 refine wl_x ?_
 refine wc_block ?_
 refine wc_sr ?_
 refine wv (o_eq rfl rfl) ?_
 refine wa rfl ?_
 refine wl_x ?_
 refine wc_cond (b := decide (c.fKind = 1)) rfl (fun c2 => ?_) (fun c2 => ?_)
 ·have h3 := cnd_t c2 h
  refine wc_sr ?_
  refine wv (r := rI .i64 4) (o_assign rfl) ?_
  refine wl_x ?_
  refine wc_ret ?_
  refine wk_in_ret ?_
  refine wk_then_ret ?_
  obtain rfl := some_e h3
  exact wk_ret (r_1 Tryz.results146 (rv_t rfl)) (sS sN) ⟨rfl, rfl⟩
 ·have h4 := cnd_f c2 h
  refine wc_sr ?_
  refine wv (o_eq rfl rfl) ?_
  refine wa rfl ?_
  refine wl_x ?_
  refine wc_cond (b := decide (c.fKind = 2)) rfl (fun c5 => ?_) (fun c5 => ?_)
  ·have h6 := cnd_t c5 h4
   refine wc_sr ?_
   refine wv (o_fieldAddr Tryz.underlying78 rfl Tryz.sizeOf3 rfl rfl) ?_
   refine wv (o_load (i := 0) Tryz.isAgg3 rfl rfl rfl) ?_
   refine wv (r := rI .i64 (IntKind.wrap .i64 (5 - c.fInt))) (o_subw rfl rfl) ?_
   refine wa rfl ?_
   refine wl_x ?_
   refine wc_ret ?_
   refine wk_in_ret ?_
   refine wk_then_ret ?_
   obtain rfl := some_e h6
   exact wk_ret (r_1 Tryz.results146 (rv_t rfl)) (sS sN) ⟨rfl, rfl⟩
  ·have h7 := cnd_f c5 h4
   refine wc_sr ?_
   refine wv (o_eq rfl rfl) ?_
   refine wa rfl ?_
   refine wl_x ?_
   refine wc_cond (b := decide (c.fKind = 3)) rfl (fun c8 => ?_) (fun c8 => ?_)
   ·have h9 := cnd_t c8 h7
    refine wc_sr ?_
    refine wv (o_fieldAddr Tryz.underlying78 rfl Tryz.sizeOf3 rfl rfl) ?_
    refine wv (o_load (i := 0) Tryz.isAgg3 rfl rfl rfl) ?_
    obtain ⟨g10, h11⟩ := chk_e h9
    refine w_call0 (rs := [rI .i64 c.fInt]) (r := rS (Lib.itoa c.fInt)) Tryz.call67 rfl (format_q c.fInt g10) rfl rfl ?_
    refine wv (o_len_s Tryz.underlying9 rfl) ?_
    refine wa rfl ?_
    refine wl_x ?_
    refine wc_ret ?_
    refine wk_in_ret ?_
    refine wk_then_ret ?_
    obtain rfl := some_e h11
    exact wk_ret (r_1 Tryz.results146 (rv_t rfl)) (sS sN) ⟨rfl, rfl⟩
   ·have h12 := cnd_f c8 h7
    refine wc_sr ?_
    refine wv (o_eq rfl rfl) ?_
    refine wa rfl ?_
    refine wl_x ?_
    refine wc_cond (b := decide (c.fKind = 4)) rfl (fun c13 => ?_) (fun c13 => ?_)
    ·have h14 := cnd_t c13 h12
     refine wc_sr ?_
     refine wv (o_fieldAddr Tryz.underlying78 rfl Tryz.sizeOf9 rfl rfl) ?_
     refine wv (o_load (i := 0) Tryz.isAgg9 rfl rfl rfl) ?_
     obtain ⟨r15, e17, h16⟩ := obn_e h14
     refine wc0 Tryz.call145 (vQuoted_w c.fStr r15 e17) rfl ?_
     refine wa rfl ?_
     refine wl_x ?_
     refine wc_ret ?_
     refine wk_in_ret ?_
     refine wk_then_ret ?_
     obtain rfl := some_e h16
     exact wk_ret (r_1 Tryz.results146 (rv_t rfl)) (sS sN) ⟨rfl, rfl⟩
    ·have h18 := cnd_f c13 h12
     refine wc_skip ?_
     refine wk_in_norm ?_
     refine wk_x ?_
     refine wc_sr ?_
     refine wv (o_fieldAddr Tryz.underlying78 rfl Tryz.sizeOf3 rfl rfl) ?_
     refine wv (o_load (i := 0) Tryz.isAgg3 rfl rfl rfl) ?_
     refine wv (r := rI .i64 (IntKind.wrap .i64 (c.fN - 1))) (o_subw rfl rfl) ?_
     refine wv (o_max Tryz.underlying3 rfl rfl) ?_
     refine wv (r := rI .i64 (IntKind.wrap .i64 (2 + (max 0 (IntKind.wrap .i64 (c.fN - 1)))))) (o_addw rfl rfl) ?_
     refine wa rfl ?_
     refine wl_x ?_
     refine wc_ret ?_
     obtain rfl := some_e h18
     exact wk_ret (r_1 Tryz.results146 (rv_t rfl)) (sS sN) ⟨rfl, rfl⟩

theorem vClosed_w (F : Nat) (v_stack : Value) (stack : (List TValueOpen)) (r : (List TValueOpen)) (h : vClosed F stack = some r) : Fn Tryz.prog GE 147 [rv v_stack] [.row v_stack 166 5 (List.map eTValueOpen stack)] (fun R H => ∃ u0 : Value, R = rv u0 ∧ H = [.row u0 166 5 (List.map eTValueOpen r)]) := by
 refine enter (n := 38) Tryz.func147 rfl Tryz.ntmps147 rfl (fun w Z => ?_)
 refine wc_as (l' := [(0, rv v_stack)]) (H' := [.row v_stack 166 5 (List.map eTValueOpen stack)]) rfl rfl ?_
 unfold vClosed at h
 refine wc_sr ?_
 refine wv (r := rv (.slice none 0 0)) (o_assign rfl) ?_
 refine wl_x ?_
 refine wc_seq ?_
 refine wc_block ?_
 obtain ⟨o186, eo187, hK188⟩ := obn_e h
 refine wc_loop2 (S := Nat × ((List TValueOpen)) × (Value)) (V := ((List TValueOpen)) × (Value)) 0 (fun σ => lop (fun σ => vClosed_b1 σ) σ.1 σ.2.1 = some o186) (fun σ => [(0, rv σ.2.2), (2, rv (.slice none 0 0))]) (fun σ => [.row σ.2.2 166 5 (List.map eTValueOpen σ.2.1)]) (fun σ => σ.1) (F, stack, v_stack) eo187 (Sub.c rfl (Sub.c rfl Sub.nil)) (sC sN) (fun σ => vClosed_k1 σ.1 = some r) (fun σ => [(0, rv σ.2), (2, rv (.slice none 0 0))]) (fun σ => [.row σ.2 166 5 (List.map eTValueOpen σ.1)]) ?_ ?_
 ·rintro ⟨n194, x159, v160⟩ hi192
  refine wc_as (l' := [(0, rv v160), (2, rv (.slice none 0 0))]) (H' := [.row v160 166 5 (List.map eTValueOpen x159)]) rfl rfl ?_
  obtain ⟨m191, rfl, t189, h193, ht190⟩ := lop_e hi192
  replace h193 : vClosed_b1 x159 = some t189 := h193
  unfold vClosed_b1 at h193
  refine wc_seq ?_
  refine wc_sr ?_
  refine wm rfl ?_
  refine wv (o_len_wt (ys := x159) (enc := eTValueOpen) (i := 0) Tryz.underlying164 rfl rfl) ?_
  refine wv (o_gt rfl rfl) ?_
  refine wl_x ?_
  refine wc_cond (b := decide (0 < (x159.length : Int))) rfl (fun c195 => ?_) (fun c195 => ?_)
  ·have h196 := cnd_t c195 h193
   refine wc_skip ?_
   refine wk_x ?_
   refine wc_block ?_
   refine wc_sr ?_
   refine wm rfl ?_
   refine wm rfl ?_
   refine wv (o_len_wt (ys := x159) (enc := eTValueOpen) (i := 0) Tryz.underlying164 rfl rfl) ?_
   obtain ⟨g197, h198⟩ := chk_e h196
   refine wv (o_sub rfl rfl g197) ?_
   obtain ⟨g199, h200⟩ := chk_e h198
   refine wv (r := rv (elp 5 v160 (Int.toNat ((x159.length : Int) - 1)) 0)) (o_ix_w (i := 0) Tryz.underlying164 Tryz.sizeOf166 rfl rfl rfl (len_map g199)) ?_
   refine wa rfl ?_
   refine wl_y ?_
   refine wm rfl ?_
   refine wv (r := rv (elp 5 v160 (Int.toNat ((x159.length : Int) - 1)) 0)) (o_nilcheck_w (k := 0) rfl (len_map g199) rfl rfl) ?_
   refine wv (r := rv (elp 5 v160 (Int.toNat ((x159.length : Int) - 1)) 1)) (o_fa_w (k := 0) Tryz.underlying166 rfl Tryz.sizeOf3 rfl (len_map g199) rfl rfl rfl) ?_
   refine wv (r := rI .i64 ((at' x159 ((x159.length : Int) - 1)).fLeft)) (o_ld_w (enc := eTValueOpen) (ys := x159) (i := 0) (j := (x159.length : Int) - 1) Tryz.isAgg3 rfl rfl g199 rfl) ?_
   obtain ⟨g201, h202⟩ := chk_e h200
   refine wv (o_sub rfl rfl g201) ?_
   refine wv (r := rv (elp 5 v160 (Int.toNat ((x159.length : Int) - 1)) 0)) (o_nilcheck_w (k := 0) rfl (len_map g199) rfl rfl) ?_
   refine wv (r := rv (elp 5 v160 (Int.toNat ((x159.length : Int) - 1)) 1)) (o_fa_w (k := 0) Tryz.underlying166 rfl Tryz.sizeOf3 rfl (len_map g199) rfl rfl rfl) ?_
   refine u_st_w (enc := eTValueOpen) (ys := x159) (y' := (TValueOpen.mk ((at' x159 ((x159.length : Int) - 1)).fPairs) (((at' x159 ((x159.length : Int) - 1)).fLeft) - 1) ((at' x159 ((x159.length : Int) - 1)).fKey) ((at' x159 ((x159.length : Int) - 1)).fLast) ((at' x159 ((x159.length : Int) - 1)).fStarted))) (i := 0) (j := (x159.length : Int) - 1) Tryz.sizeOf3 rfl rfl (one_c rfl) rfl g199 rfl rfl (H' := [.row v160 166 5 (List.map eTValueOpen (List.set x159 (Int.toNat ((x159.length : Int) - 1)) (TValueOpen.mk ((at' x159 ((x159.length : Int) - 1)).fPairs) (((at' x159 ((x159.length : Int) - 1)).fLeft) - 1) ((at' x159 ((x159.length : Int) - 1)).fKey) ((at' x159 ((x159.length : Int) - 1)).fLast) ((at' x159 ((x159.length : Int) - 1)).fStarted))))]) rfl ?_
   obtain ⟨r203, e205, h204⟩ := bnd_e h202
   rw [← e205]
   refine wl_x ?_
   refine wc_seq ?_
   refine wc_sr ?_
   refine wm rfl ?_
   refine wv (r := rv (elp 5 v160 (Int.toNat ((x159.length : Int) - 1)) 0)) (o_nilcheck_w (k := 0) rfl (len_map (inR_set g199 e205)) rfl rfl) ?_
   refine wv (r := rv (elp 5 v160 (Int.toNat ((x159.length : Int) - 1)) 1)) (o_fa_w (k := 0) Tryz.underlying166 rfl Tryz.sizeOf3 rfl (len_map (inR_set g199 e205)) rfl rfl rfl) ?_
   refine wv (r := rI .i64 ((at' r203 ((x159.length : Int) - 1)).fLeft)) (o_ld_w (enc := eTValueOpen) (ys := r203) (i := 0) (j := (x159.length : Int) - 1) Tryz.isAgg3 rfl rfl (inR_set g199 e205) rfl) ?_
   refine wv (o_gt rfl rfl) ?_
   refine wl_x ?_
   refine wc_cond (b := decide (0 < ((at' r203 ((x159.length : Int) - 1)).fLeft))) rfl (fun c206 => ?_) (fun c206 => ?_)
   ·have h207 := cnd_t c206 h204
    refine wc_sr ?_
    refine wm rfl ?_
    refine wm rfl ?_
    refine wv (r := rv (elp 5 v160 (Int.toNat ((x159.length : Int) - 1)) 0)) (o_nilcheck_w (k := 0) rfl (len_map (inR_set g199 e205)) rfl rfl) ?_
    refine wv (r := rv (elp 5 v160 (Int.toNat ((x159.length : Int) - 1)) 0)) (o_fa_w (k := 0) Tryz.underlying166 rfl Tryz.sizeOf4 rfl (len_map (inR_set g199 e205)) rfl rfl rfl) ?_
    refine wv (r := rB ((at' r203 ((x159.length : Int) - 1)).fPairs)) (o_ld_w (enc := eTValueOpen) (ys := r203) (i := 0) (j := (x159.length : Int) - 1) Tryz.isAgg4 rfl rfl (inR_set g199 e205) rfl) ?_
    refine wv (r := rv (elp 5 v160 (Int.toNat ((x159.length : Int) - 1)) 0)) (o_nilcheck_w (k := 0) rfl (len_map (inR_set g199 e205)) rfl rfl) ?_
    refine wv (r := rv (elp 5 v160 (Int.toNat ((x159.length : Int) - 1)) 2)) (o_fa_w (k := 0) Tryz.underlying166 rfl Tryz.sizeOf4 rfl (len_map (inR_set g199 e205)) rfl rfl rfl) ?_
    refine u_st_w (enc := eTValueOpen) (ys := r203) (y' := (TValueOpen.mk ((at' r203 ((x159.length : Int) - 1)).fPairs) ((at' r203 ((x159.length : Int) - 1)).fLeft) ((at' r203 ((x159.length : Int) - 1)).fPairs) ((at' r203 ((x159.length : Int) - 1)).fLast) ((at' r203 ((x159.length : Int) - 1)).fStarted))) (i := 0) (j := (x159.length : Int) - 1) Tryz.sizeOf4 rfl rfl (one_c rfl) rfl (inR_set g199 e205) rfl rfl (H' := [.row v160 166 5 (List.map eTValueOpen (List.set r203 (Int.toNat ((x159.length : Int) - 1)) (TValueOpen.mk ((at' r203 ((x159.length : Int) - 1)).fPairs) ((at' r203 ((x159.length : Int) - 1)).fLeft) ((at' r203 ((x159.length : Int) - 1)).fPairs) ((at' r203 ((x159.length : Int) - 1)).fLast) ((at' r203 ((x159.length : Int) - 1)).fStarted))))]) rfl ?_
    obtain ⟨r208, e210, h209⟩ := bnd_e h207
    rw [← e210]
    refine wl_y ?_
    refine wm rfl ?_
    refine wa rfl ?_
    refine wl_x ?_
    refine wc_ret ?_
    refine wk_then_ret ?_
    refine wk_in_ret ?_
    refine wk_then_ret ?_
    refine wk_cut_ret ?_
    have h211 := stp_ret h209 ht190 hK188
    refine wk_in_ret ?_
    refine wk_then_ret ?_
    obtain rfl := some_e h211
    exact wk_ret (r_1 Tryz.results147 (rv_t rfl)) (sC sN) ⟨v160, rfl, rfl⟩
   ·have h212 := cnd_f c206 h204
    refine wc_skip ?_
    refine wk_x ?_
    refine wc_region ?_
    refine wm rfl ?_
    refine wm rfl ?_
    refine wv (o_len_wt (ys := r203) (enc := eTValueOpen) (i := 0) Tryz.underlying164 rfl rfl) ?_
    obtain ⟨g213, h214⟩ := chk_e h212
    refine wv (o_sub rfl rfl g213) ?_
    obtain ⟨g216, h217⟩ := chk_e h214
    refine w_cut (i := 0) Tryz.underlying164 Tryz.sizeOf166 rfl rfl rfl g216 rfl (fun v215 => ?_)
    refine wa rfl ?_
    refine wl_nil ?_
    refine wk_in_norm ?_
    have h218 := stp_next h217 ht190
    exact wk_then (wk_some (m191, List.take (Int.toNat ((r203.length : Int) - 1)) r203, v215) ⟨h218, Nat.lt_succ_self _⟩ (Sub.c rfl (Sub.c rfl Sub.nil)) (sC sN))
  ·have h219 := cnd_f c195 h193
   refine wc_exit ?_
   refine wk_then_exit ?_
   have h220 := stp_go h219 ht190 hK188
   exact wk_then_exit (wk_cut_hit (wk_some (x159, v160) h220 (Sub.c rfl (Sub.c rfl Sub.nil)) (sC sN)))
 ·rintro ⟨x184, v185⟩ h221
  refine wk_as (l' := [(0, rv v185), (2, rv (.slice none 0 0))]) (H' := [.row v185 166 5 (List.map eTValueOpen x184)]) rfl rfl ?_
  replace h221 : vClosed_k1 x184 = some r := h221
  unfold vClosed_k1 at h221
  refine wk_in_hit ?_
  refine wk_x ?_
  refine wc_sr ?_
  refine wm rfl ?_
  refine wa rfl ?_
  refine wl_x ?_
  refine wc_ret ?_
  obtain rfl := some_e h221
  exact wk_ret (r_1 Tryz.results147 (rv_t rfl)) (sC sN) ⟨v185, rfl, rfl⟩

theorem vLook_w (F : Nat) (v : (List TApiCell)) (r : Int × TValueShape × Bool) (h : vLook F v = some r) : Fn Tryz.prog GE 106 [rSl 4 (List.map eTApiCell v)] [] (fun R H => R = rTup [rI .i64 r.1, rAgg (eTValueShape r.2.1), rB r.2.2] ∧ H = []) := by
 refine enter (n := 152) Tryz.func106 rfl Tryz.ntmps106 rfl (fun w Z => ?_)
 refine wc_as (l' := [(0, rSl 4 (List.map eTApiCell v))]) (H' := []) rfl rfl ?_
 unfold vLook at h
 refine wc_sr ?_
 refine wv (r := rI .i64 0) (o_assign rfl) ?_
 refine w_alloc (cs := [rI .i64 0, rI .i64 0, rB false, rB false]) Tryz.zeroValue133 rfl rfl (fun b1 => ?_)
 refine wv (r := rB false) (o_assign rfl) ?_
 refine wl_x ?_
 refine wc_scope ?_
 refine wc_sr ?_
 refine w_alloc (cs := [rI .i64 0, rI .i64 0, rB false, rB false]) Tryz.zeroValue133 rfl rfl (fun b2 => ?_)
 refine wl_y ?_
 refine wv (r := rv (.slice none 0 0)) (o_assign rfl) ?_
 refine wl_x ?_
 refine wc_seq ?_
 refine wc_label ?_
 refine wk_x ?_
 refine wc_seq ?_
 refine wc_sr ?_
 refine wm rfl ?_
 refine wv (o_len_zt (ys := v) (enc := eTApiCell) Tryz.underlying33 rfl) ?_
 refine wv (r := rI .i64 0) (o_move rfl) ?_
 refine wl_x ?_
 refine wc_block ?_
 refine WC.nilrow (e := 166) (sz := 5) ?_
 refine wc_perm (H2 := [.blk b2 [rI .i64 0, rI .i64 0, rB false, rB false] 133, .blk b1 [rI .i64 0, rI .i64 0, rB false, rB false] 133, .row (.slice none 0 0                                                                                                                                                                      ) 166 5 (List.map eTValueOpen ([] : List TValueOpen))]) ((perm_front (i := 1) rfl).trans (List.Perm.cons _ ((perm_front (i := 1) rfl).trans (List.Perm.cons _ (List.Perm.refl _))))) ?_
 obtain ⟨o387, eo388, hK389⟩ := obn_e h
 refine wc_loop2 (S := Nat × ((List TValueOpen) × Int × TValueShape) × (Value)) (V := (TValueShape) × (Unit)) 0 (fun σ => lop (fun σ => vLook_b1 F v σ.1 σ.2.1 σ.2.2) σ.1 σ.2.1 = some o387) (fun σ => [(0, rSl 4 (List.map eTApiCell v)), (3, rv (.pointer (some ⟨b1, 0, none⟩))), (5, rv (.pointer (some ⟨b2, 0, none⟩))), (6, rv σ.2.2), (11, rSl 4 (List.map eTApiCell v)), (12, rI .i64 (v.length : Int)), (13, rI .i64 σ.2.1.2.1)]) (fun σ => [.blk b2 (eTValueShape σ.2.1.2.2) 133, .blk b1 [rI .i64 0, rI .i64 0, rB false, rB false] 133, .row σ.2.2 166 5 (List.map eTValueOpen σ.2.1.1)]) (fun σ => σ.1) (F, (([] : List TValueOpen), 0, (TValueShape.mk 0 0 false false)), (.slice none 0 0                                                                                                                                                                      )) eo388 (Sub.c rfl (Sub.c rfl (Sub.c5 rfl rfl rfl rfl rfl Sub.nil))) (sC (sC (sC sN))) (fun σ => vLook_k1 σ.1 = some r) (fun σ => [(3, rv (.pointer (some ⟨b1, 0, none⟩))), (5, rv (.pointer (some ⟨b2, 0, none⟩)))]) (fun σ => [.blk b2 (eTValueShape σ.1) 133, .blk b1 [rI .i64 0, rI .i64 0, rB false, rB false] 133]) ?_ ?_
 ·rintro ⟨n395, ⟨x233, x235, x236⟩, v234⟩ hi393
  refine wc_as (l' := [(0, rSl 4 (List.map eTApiCell v)), (3, rv (.pointer (some ⟨b1, 0, none⟩))), (5, rv (.pointer (some ⟨b2, 0, none⟩))), (6, rv v234), (11, rSl 4 (List.map eTApiCell v)), (12, rI .i64 (v.length : Int)), (13, rI .i64 x235)]) (H' := [.blk b2 (eTValueShape x236) 133, .blk b1 [rI .i64 0, rI .i64 0, rB false, rB false] 133, .row v234 166 5 (List.map eTValueOpen x233)]) rfl rfl ?_
  obtain ⟨m392, rfl, t390, h394, ht391⟩ := lop_e hi393
  replace h394 : vLook_b1 F v x233 x235 x236 = some t390 := h394
  unfold vLook_b1 at h394
  refine wc_sr ?_
  refine wv (o_lt rfl rfl) ?_
  refine wl_x ?_
  refine wc_seq ?_
  refine wc_cond (b := decide (x235 < (v.length : Int))) rfl (fun c396 => ?_) (fun c396 => ?_)
  ·have h397 := cnd_t c396 h394
   refine wc_skip ?_
   refine wk_x ?_
   refine wc_seq_cut (S := ((List TValueOpen) × TValueShape) × (Value)) (fun σ => vLook_j2 x235 σ.1.1 σ.1.2 = some t390) (fun σ => [(0, rSl 4 (List.map eTApiCell v)), (3, rv (.pointer (some ⟨b1, 0, none⟩))), (5, rv (.pointer (some ⟨b2, 0, none⟩))), (6, rv σ.2), (11, rSl 4 (List.map eTApiCell v)), (12, rI .i64 (v.length : Int)), (13, rI .i64 x235)]) (fun σ => [.blk b2 (eTValueShape σ.1.2) 133, .blk b1 [rI .i64 0, rI .i64 0, rB false, rB false] 133, .row σ.2 166 5 (List.map eTValueOpen σ.1.1)]) ?_ ?_
   ·refine wc_block ?_
    refine wc_sr ?_
    refine wm rfl ?_
    obtain ⟨g471, h472⟩ := chk_e h397
    refine wv (o_ix_z (enc := eTApiCell) (ys := v) Tryz.underlying33 Tryz.sizeOf78 rfl rfl g471) ?_
    refine wv (o_load_za Tryz.isAgg78 Tryz.sizeOf78 rfl rfl rfl) ?_
    refine w_alloc (cs := [rI .i64 0, rI .i64 0, rS ([] : Str), rI .i64 0]) Tryz.zeroValue78 rfl rfl (fun b473 => ?_)
    refine wa rfl ?_
    refine u_store_agg (i := 0) Tryz.sizeOf78 rfl rfl rfl (OneAll.c rfl) rfl rfl (cs' := [rI .i64 ((at' v x235).fKind), rI .i64 ((at' v x235).fInt), rS ((at' v x235).fStr), rI .i64 ((at' v x235).fN)]) rfl (H' := [.blk b473 (eTApiCell (at' v x235)) 78, .blk b2 (eTValueShape x236) 133, .blk b1 [rI .i64 0, rI .i64 0, rB false, rB false] 133, .row v234 166 5 (List.map eTValueOpen x233)]) rfl ?_
    refine wl_x ?_
    refine wc_seq ?_
    refine wc_sr ?_
    refine wv (o_load_agg (i := 0) Tryz.isAgg78 Tryz.sizeOf78 rfl rfl rfl rfl) ?_
    obtain ⟨r474, e476, h475⟩ := obn_e h472
    refine wc0 Tryz.call144 (vPlain_w F (at' v x235) r474 e476) rfl ?_
    refine wv (o_not rfl) ?_
    refine wl_x ?_
    refine wc_cond (b := !r474) rfl (fun c477 => ?_) (fun c477 => ?_)
    ·have h478 := cnd_t c477 h475
     refine wc_seq ?_
     refine wc_rdk (H1 := [.blk b473 (eTApiCell (at' v x235)) 78, .blk b2 (eTValueShape x236) 133, .blk b1 (eTValueShape x236) 133, .row v234 166 5 (List.map eTValueOpen x233)]) [3, 5] [⟨[], rAgg (eTValueShape x236), 1⟩, ⟨[], rI .i64 0, 0⟩, ⟨[0], rv undef, 2⟩, ⟨[], rB false, 0⟩] (rle [(3, _), (2, [.blk b473 (eTApiCell (at' v x235)) 78, .blk b2 (eTValueShape x236) 133, .blk b1 (eTValueShape x236) 133, .row v234 166 5 (List.map eTValueOpen x233)])]) [2, 4, 3] ?_ ?_
     ·refine of (o_load_agg (i := 1) Tryz.isAgg133 Tryz.sizeOf133 rfl rfl rfl rfl) ?_
      refine oq (o_assign rfl) ?_
      refine obl_l rfl (ok_u (U_u_store_agg (i := 2) Tryz.sizeOf133 rfl rfl rfl (OneAll.c rfl) rfl rfl (cs' := [rI .i64 x236.fDepth, rI .i64 x236.fBytes, rB x236.fOutside, rB x236.fLong]) rfl (H' := [.blk b473 (eTApiCell (at' v x235)) 78, .blk b2 (eTValueShape x236) 133, .blk b1 (eTValueShape x236) 133, .row v234 166 5 (List.map eTValueOpen x233)]) rfl)) ?_
      refine oq (o_assign rfl) ?_
      exact obl_e
     refine wk_x ?_
     refine wc_ret ?_
     refine wk_then_ret ?_
     refine wk_in_ret ?_
     refine wk_then_ret ?_
     refine wk_then_ret ?_
     refine wk_cut_ret ?_
     have h479 := stp_ret h478 ht391 hK389
     refine wk_in_ret ?_
     refine wk_then_ret ?_
     refine wk_ng_r ?_
     obtain rfl := some_e h479
     exact wk_ret (r_3 Tryz.results106 (rv_t rfl) (rv_ca (i := 2) Tryz.isAgg133 Tryz.sizeOf133 rfl rfl rfl) (rv_t rfl)) (sS (sS (sS (sS sN)))) ⟨rfl, rfl⟩
    ·have h480 := cnd_f c477 h475
     refine wc_skip ?_
     refine wk_x ?_
     refine wc_seq ?_
     refine wc_sr ?_
     refine wm rfl ?_
     refine wv (o_len_wt (ys := x233) (enc := eTValueOpen) (i := 3) Tryz.underlying164 rfl rfl) ?_
     refine wa rfl ?_
     refine wl_x ?_
     obtain ⟨g481, h482⟩ := chk_e h480
     obtain ⟨g483, h484⟩ := chk_e h482
     refine wc_seq_mid [(0, rSl 4 (List.map eTApiCell v)), (3, rv (.pointer (some ⟨b1, 0, none⟩))), (5, rv (.pointer (some ⟨b2, 0, none⟩))), (6, rv v234), (7, rI .i64 x235), (8, rv (.pointer (some ⟨b473, 0, none⟩))), (9, rI .i64 (x233.length : Int)), (11, rSl 4 (List.map eTApiCell v)), (12, rI .i64 (v.length : Int)), (13, rI .i64 x235), (33, rB ((decide (0 < (x233.length : Int))) && ((at' x233 ((x233.length : Int) - 1)).fKey)))] [.blk b473 (eTApiCell (at' v x235)) 78, .blk b2 (eTValueShape x236) 133, .blk b1 [rI .i64 0, rI .i64 0, rB false, rB false] 133, .row v234 166 5 (List.map eTValueOpen x233)] ?_ ?_
     ·refine wc_region ?_
      refine wm rfl ?_
      refine wv (o_gt rfl rfl) ?_
      refine wm rfl ?_
      refine bsplit (decide (0 < (x233.length : Int))) (fun c485 => ?_) (fun c485 => ?_)
      ·refine wo c485 ?_
       refine wm rfl ?_
       refine wo c485 ?_
       refine wm rfl ?_
       refine wo c485 ?_
       refine wv (o_sub rfl rfl (imp_t g481 c485)) ?_
       refine wo c485 ?_
       refine wv (r := rv (elp 5 v234 (Int.toNat ((x233.length : Int) - 1)) 0)) (o_ix_w (i := 3) Tryz.underlying164 Tryz.sizeOf166 rfl rfl rfl (len_map (imp_t g483 c485))) ?_
       refine wo c485 ?_
       refine wv (r := rv (elp 5 v234 (Int.toNat ((x233.length : Int) - 1)) 2)) (o_fa_w (k := 3) Tryz.underlying166 rfl Tryz.sizeOf4 rfl (len_map (imp_t g483 c485)) rfl rfl rfl) ?_
       refine wo c485 ?_
       refine wv (r := rB ((at' x233 ((x233.length : Int) - 1)).fKey)) (o_ld_w (enc := eTValueOpen) (ys := x233) (i := 3) (j := (x233.length : Int) - 1) Tryz.isAgg4 rfl rfl (imp_t g483 c485) rfl) ?_
       refine wpt rfl c485 rfl ?_
       refine wl_nil ?_
       exact wtc c485
      ·refine wf c485 ?_
       refine wf c485 ?_
       refine wf c485 ?_
       refine wf c485 ?_
       refine wf c485 ?_
       refine wf c485 ?_
       refine wv (r := rB false) (o_pick_f (b := decide (0 < (x233.length : Int))) rfl c485 rfl) ?_
       refine wl_nil ?_
       exact wtc c485
     refine wc_cond (b := ((decide (0 < (x233.length : Int))) && ((at' x233 ((x233.length : Int) - 1)).fKey))) rfl (fun c486 => ?_) (fun c486 => ?_)
     ·have h487 := cnd_t c486 h484
      refine wc_sr ?_
      refine wm rfl ?_
      refine wm rfl ?_
      obtain ⟨g488, h489⟩ := chk_e h487
      refine wv (o_sub rfl rfl g488) ?_
      obtain ⟨g490, h491⟩ := chk_e h489
      refine wv (r := rv (elp 5 v234 (Int.toNat ((x233.length : Int) - 1)) 0)) (o_ix_w (i := 3) Tryz.underlying164 Tryz.sizeOf166 rfl rfl rfl (len_map g490)) ?_
      refine wa rfl ?_
      refine wl_x ?_
      refine wc_seq ?_
      refine wc_seq_mid [(0, rSl 4 (List.map eTApiCell v)), (3, rv (.pointer (some ⟨b1, 0, none⟩))), (5, rv (.pointer (some ⟨b2, 0, none⟩))), (6, rv v234), (8, rv (.pointer (some ⟨b473, 0, none⟩))), (10, rv (elp 5 v234 (Int.toNat ((x233.length : Int) - 1)) 0)), (11, rSl 4 (List.map eTApiCell v)), (12, rI .i64 (v.length : Int)), (13, rI .i64 x235), (38, rv (.pointer (some ⟨b473, 0, none⟩))), (39, rI .i64 ((at' v x235).fKind)), (40, rB (!decide (((at' v x235).fKind) = 4))), (41, rB (!decide (((at' v x235).fKind) = 4))), (55, rB ((!decide (((at' v x235).fKind) = 4)) || (((at' x233 ((x233.length : Int) - 1)).fStarted) && (sLess ((at' v x235).fStr) ((at' x233 ((x233.length : Int) - 1)).fLast) || decide (((at' v x235).fStr) = ((at' x233 ((x233.length : Int) - 1)).fLast))))))] [.blk b473 (eTApiCell (at' v x235)) 78, .blk b2 (eTValueShape x236) 133, .blk b1 [rI .i64 0, rI .i64 0, rB false, rB false] 133, .row v234 166 5 (List.map eTValueOpen x233)] ?_ ?_
      ·refine bsplit (!decide (((at' v x235).fKind) = 4)) (fun c492 => ?_) (fun c492 => ?_)
       ·refine wc_rdq [0, 3, 5, 6, 8, 10, 11, 12, 13] [⟨[], rv (.pointer (some ⟨b473, 0, none⟩)), 0⟩, ⟨[0], rI .i64 ((at' v x235).fKind), 1⟩, ⟨[1], rB (!decide (((at' v x235).fKind) = 4)), 0⟩, ⟨[2], rB (!decide (((at' v x235).fKind) = 4)), 0⟩, ⟨[3], rv undef, 0⟩, ⟨[4, 3], rv undef, 0⟩, ⟨[5, 3], rv undef, 0⟩, ⟨[6, 3], rv undef, 0⟩, ⟨[7, 3], rv undef, 0⟩, ⟨[8], rv undef, 0⟩, ⟨[9, 8], rv undef, 0⟩, ⟨[8], rv undef, 0⟩, ⟨[11, 8], rv undef, 0⟩, ⟨[12, 8], rv undef, 0⟩, ⟨[13, 8], rv undef, 0⟩, ⟨[10, 14, 8], rv undef, 0⟩, ⟨[8, 15, 3], rv undef, 0⟩, ⟨[3, 16], rB true, 0⟩] [38, 39, 40, 41, 42, 43, 44, 45, 46, 47, 48, 49, 50, 51, 52, 53, 54, 55, 0, 3, 5, 6, 8, 10, 11, 12, 13] ?_ ?_
        ·refine oq (o_fieldAddr Tryz.underlying78 rfl Tryz.sizeOf76 rfl rfl) ?_
         refine of (o_load (i := 0) Tryz.isAgg76 rfl rfl rfl) ?_
         refine oq (o_ne rfl rfl) ?_
         refine oq (o_move rfl) ?_
         refine oz c492 ?_
         refine oz c492 ?_
         refine oz c492 ?_
         refine oz c492 ?_
         refine oz c492 ?_
         refine ou ?_
         refine ou ?_
         refine ou ?_
         refine ou ?_
         refine ou ?_
         refine ou ?_
         refine ou ?_
         refine oz c492 ?_
         refine oq (o_pick_t (b := !decide (((at' v x235).fKind) = 4)) rfl c492 rfl) ?_
         exact obl_e
        exact wtc c492
       ·refine bsplit ((at' x233 ((x233.length : Int) - 1)).fStarted) (fun c493 => ?_) (fun c493 => ?_)
        ·refine wc_rdq [0, 3, 5, 6, 8, 10, 11, 12, 13] [⟨[], rv (.pointer (some ⟨b473, 0, none⟩)), 0⟩, ⟨[0], rI .i64 ((at' v x235).fKind), 1⟩, ⟨[1], rB (!decide (((at' v x235).fKind) = 4)), 0⟩, ⟨[2], rB (!decide (((at' v x235).fKind) = 4)), 0⟩, ⟨[3], rv (elp 5 v234 (Int.toNat ((x233.length : Int) - 1)) 0), 0⟩, ⟨[4, 3], rv (elp 5 v234 (Int.toNat ((x233.length : Int) - 1)) 0), 1⟩, ⟨[5, 3], rv (elp 5 v234 (Int.toNat ((x233.length : Int) - 1)) 4), 1⟩, ⟨[6, 3], rB ((at' x233 ((x233.length : Int) - 1)).fStarted), 1⟩, ⟨[7, 3], rB ((at' x233 ((x233.length : Int) - 1)).fStarted), 0⟩, ⟨[8], rv (.pointer (some ⟨b473, 2, none⟩)), 0⟩, ⟨[9, 8], rS ((at' v x235).fStr), 1⟩, ⟨[8], rv (elp 5 v234 (Int.toNat ((x233.length : Int) - 1)) 0), 0⟩, ⟨[11, 8], rv (elp 5 v234 (Int.toNat ((x233.length : Int) - 1)) 0), 1⟩, ⟨[12, 8], rv (elp 5 v234 (Int.toNat ((x233.length : Int) - 1)) 3), 1⟩, ⟨[13, 8], rS ((at' x233 ((x233.length : Int) - 1)).fLast), 1⟩, ⟨[10, 14, 8], rB (sLess ((at' v x235).fStr) ((at' x233 ((x233.length : Int) - 1)).fLast) || decide (((at' v x235).fStr) = ((at' x233 ((x233.length : Int) - 1)).fLast))), 0⟩, ⟨[8, 15, 3], rB (sLess ((at' v x235).fStr) ((at' x233 ((x233.length : Int) - 1)).fLast) || decide (((at' v x235).fStr) = ((at' x233 ((x233.length : Int) - 1)).fLast))), 0⟩, ⟨[3, 16], rB (sLess ((at' v x235).fStr) ((at' x233 ((x233.length : Int) - 1)).fLast) || decide (((at' v x235).fStr) = ((at' x233 ((x233.length : Int) - 1)).fLast))), 0⟩] [38, 39, 40, 41, 42, 43, 44, 45, 46, 47, 48, 49, 50, 51, 52, 53, 54, 55, 0, 3, 5, 6, 8, 10, 11, 12, 13] ?_ ?_
         ·refine oq (o_fieldAddr Tryz.underlying78 rfl Tryz.sizeOf76 rfl rfl) ?_
          refine of (o_load (i := 0) Tryz.isAgg76 rfl rfl rfl) ?_
          refine oq (o_ne rfl rfl) ?_
          refine oq (o_move rfl) ?_
          refine on c492 ?_
          refine oq (o_move rfl) ?_
          refine on c492 ?_
          refine of (o_nilcheck_w (k := 3) rfl (len_map g490) rfl rfl) ?_
          refine on c492 ?_
          refine of (o_fa_w (k := 3) Tryz.underlying166 rfl Tryz.sizeOf4 rfl (len_map g490) rfl rfl rfl) ?_
          refine on c492 ?_
          refine of (o_ld_w (enc := eTValueOpen) (ys := x233) (i := 3) (j := (x233.length : Int) - 1) Tryz.isAgg4 rfl rfl g490 rfl) ?_
          refine on c492 ?_
          refine oq (o_move rfl) ?_
          refine on c493 ?_
          refine oq (o_fieldAddr Tryz.underlying78 rfl Tryz.sizeOf9 rfl rfl) ?_
          refine on c493 ?_
          refine of (o_load (i := 0) Tryz.isAgg9 rfl rfl rfl) ?_
          refine on c493 ?_
          refine oq (o_move rfl) ?_
          refine on c493 ?_
          refine of (o_nilcheck_w (k := 3) rfl (len_map g490) rfl rfl) ?_
          refine on c493 ?_
          refine of (o_fa_w (k := 3) Tryz.underlying166 rfl Tryz.sizeOf9 rfl (len_map g490) rfl rfl rfl) ?_
          refine on c493 ?_
          refine of (o_ld_w (enc := eTValueOpen) (ys := x233) (i := 3) (j := (x233.length : Int) - 1) Tryz.isAgg9 rfl rfl g490 rfl) ?_
          refine on c493 ?_
          refine oq (o_sle rfl rfl) ?_
          refine on c492 ?_
          refine oq (o_pick_t rfl c493 rfl) ?_
          refine oq (o_pick_f rfl c492 rfl) ?_
          exact obl_e
         exact wtc (And.intro c492 c493)
        ·refine wc_rdq [0, 3, 5, 6, 8, 10, 11, 12, 13] [⟨[], rv (.pointer (some ⟨b473, 0, none⟩)), 0⟩, ⟨[0], rI .i64 ((at' v x235).fKind), 1⟩, ⟨[1], rB (!decide (((at' v x235).fKind) = 4)), 0⟩, ⟨[2], rB (!decide (((at' v x235).fKind) = 4)), 0⟩, ⟨[3], rv (elp 5 v234 (Int.toNat ((x233.length : Int) - 1)) 0), 0⟩, ⟨[4, 3], rv (elp 5 v234 (Int.toNat ((x233.length : Int) - 1)) 0), 1⟩, ⟨[5, 3], rv (elp 5 v234 (Int.toNat ((x233.length : Int) - 1)) 4), 1⟩, ⟨[6, 3], rB ((at' x233 ((x233.length : Int) - 1)).fStarted), 1⟩, ⟨[7, 3], rB ((at' x233 ((x233.length : Int) - 1)).fStarted), 0⟩, ⟨[8], rv undef, 0⟩, ⟨[9, 8], rv undef, 0⟩, ⟨[8], rv undef, 0⟩, ⟨[11, 8], rv undef, 0⟩, ⟨[12, 8], rv undef, 0⟩, ⟨[13, 8], rv undef, 0⟩, ⟨[10, 14, 8], rv undef, 0⟩, ⟨[8, 15, 3], rB false, 0⟩, ⟨[3, 16], rB false, 0⟩] [38, 39, 40, 41, 42, 43, 44, 45, 46, 47, 48, 49, 50, 51, 52, 53, 54, 55, 0, 3, 5, 6, 8, 10, 11, 12, 13] ?_ ?_
         ·refine oq (o_fieldAddr Tryz.underlying78 rfl Tryz.sizeOf76 rfl rfl) ?_
          refine of (o_load (i := 0) Tryz.isAgg76 rfl rfl rfl) ?_
          refine oq (o_ne rfl rfl) ?_
          refine oq (o_move rfl) ?_
          refine on c492 ?_
          refine oq (o_move rfl) ?_
          refine on c492 ?_
          refine of (o_nilcheck_w (k := 3) rfl (len_map g490) rfl rfl) ?_
          refine on c492 ?_
          refine of (o_fa_w (k := 3) Tryz.underlying166 rfl Tryz.sizeOf4 rfl (len_map g490) rfl rfl rfl) ?_
          refine on c492 ?_
          refine of (o_ld_w (enc := eTValueOpen) (ys := x233) (i := 3) (j := (x233.length : Int) - 1) Tryz.isAgg4 rfl rfl g490 rfl) ?_
          refine on c492 ?_
          refine oq (o_move rfl) ?_
          refine oz c493 ?_
          refine oz c493 ?_
          refine oz c493 ?_
          refine oz c493 ?_
          refine oz c493 ?_
          refine oz c493 ?_
          refine oz c493 ?_
          refine on c492 ?_
          refine oq (o_pick_f (b := (at' x233 ((x233.length : Int) - 1)).fStarted) rfl c493 rfl) ?_
          refine oq (o_pick_f rfl c492 rfl) ?_
          exact obl_e
         exact wtc (And.intro c492 c493)
      refine wc_cond (b := ((!decide (((at' v x235).fKind) = 4)) || (((at' x233 ((x233.length : Int) - 1)).fStarted) && (sLess ((at' v x235).fStr) ((at' x233 ((x233.length : Int) - 1)).fLast) || decide (((at' v x235).fStr) = ((at' x233 ((x233.length : Int) - 1)).fLast)))))) rfl (fun c494 => ?_) (fun c494 => ?_)
      ·have h495 := cnd_t c494 h491
       refine wc_seq ?_
       refine wc_rdk (H1 := [.blk b473 (eTApiCell (at' v x235)) 78, .blk b2 (eTValueShape x236) 133, .blk b1 (eTValueShape x236) 133, .row v234 166 5 (List.map eTValueOpen x233)]) [3, 5] [⟨[], rAgg (eTValueShape x236), 1⟩, ⟨[], rI .i64 0, 0⟩, ⟨[0], rv undef, 2⟩, ⟨[], rB false, 0⟩] (rle [(3, _), (2, [.blk b473 (eTApiCell (at' v x235)) 78, .blk b2 (eTValueShape x236) 133, .blk b1 (eTValueShape x236) 133, .row v234 166 5 (List.map eTValueOpen x233)])]) [2, 4, 3] ?_ ?_
       ·refine of (o_load_agg (i := 1) Tryz.isAgg133 Tryz.sizeOf133 rfl rfl rfl rfl) ?_
        refine oq (o_assign rfl) ?_
        refine obl_l rfl (ok_u (U_u_store_agg (i := 2) Tryz.sizeOf133 rfl rfl rfl (OneAll.c rfl) rfl rfl (cs' := [rI .i64 x236.fDepth, rI .i64 x236.fBytes, rB x236.fOutside, rB x236.fLong]) rfl (H' := [.blk b473 (eTApiCell (at' v x235)) 78, .blk b2 (eTValueShape x236) 133, .blk b1 (eTValueShape x236) 133, .row v234 166 5 (List.map eTValueOpen x233)]) rfl)) ?_
        refine oq (o_assign rfl) ?_
        exact obl_e
       refine wk_x ?_
       refine wc_ret ?_
       refine wk_then_ret ?_
       refine wk_then_ret ?_
       refine wk_in_ret ?_
       refine wk_then_ret ?_
       refine wk_then_ret ?_
       refine wk_cut_ret ?_
       have h496 := stp_ret h495 ht391 hK389
       refine wk_in_ret ?_
       refine wk_then_ret ?_
       refine wk_ng_r ?_
       obtain rfl := some_e h496
       exact wk_ret (r_3 Tryz.results106 (rv_t rfl) (rv_ca (i := 2) Tryz.isAgg133 Tryz.sizeOf133 rfl rfl rfl) (rv_t rfl)) (sS (sS (sS (sS sN)))) ⟨rfl, rfl⟩
      ·have h497 := cnd_f c494 h491
       refine wc_skip ?_
       refine wk_x ?_
       refine wc_sr ?_
       refine wm rfl ?_
       refine wm rfl ?_
       refine wm rfl ?_
       refine wv (o_fieldAddr Tryz.underlying78 rfl Tryz.sizeOf9 rfl rfl) ?_
       refine wv (o_load (i := 0) Tryz.isAgg9 rfl rfl rfl) ?_
       refine wv (r := rv (elp 5 v234 (Int.toNat ((x233.length : Int) - 1)) 0)) (o_nilcheck_w (k := 3) rfl (len_map g490) rfl rfl) ?_
       refine wv (r := rv (elp 5 v234 (Int.toNat ((x233.length : Int) - 1)) 3)) (o_fa_w (k := 3) Tryz.underlying166 rfl Tryz.sizeOf9 rfl (len_map g490) rfl rfl rfl) ?_
       refine u_st_w (enc := eTValueOpen) (ys := x233) (y' := (TValueOpen.mk ((at' x233 ((x233.length : Int) - 1)).fPairs) ((at' x233 ((x233.length : Int) - 1)).fLeft) ((at' x233 ((x233.length : Int) - 1)).fKey) ((at' v x235).fStr) ((at' x233 ((x233.length : Int) - 1)).fStarted))) (i := 3) (j := (x233.length : Int) - 1) Tryz.sizeOf9 rfl rfl (one_c rfl) rfl g490 rfl rfl (H' := [.blk b473 (eTApiCell (at' v x235)) 78, .blk b2 (eTValueShape x236) 133, .blk b1 [rI .i64 0, rI .i64 0, rB false, rB false] 133, .row v234 166 5 (List.map eTValueOpen (List.set x233 (Int.toNat ((x233.length : Int) - 1)) (TValueOpen.mk ((at' x233 ((x233.length : Int) - 1)).fPairs) ((at' x233 ((x233.length : Int) - 1)).fLeft) ((at' x233 ((x233.length : Int) - 1)).fKey) ((at' v x235).fStr) ((at' x233 ((x233.length : Int) - 1)).fStarted))))]) rfl ?_
       obtain ⟨r498, e500, h499⟩ := bnd_e h497
       rw [← e500]
       refine wv (r := rv (elp 5 v234 (Int.toNat ((x233.length : Int) - 1)) 0)) (o_nilcheck_w (k := 3) rfl (len_map (inR_set g490 e500)) rfl rfl) ?_
       refine wv (r := rv (elp 5 v234 (Int.toNat ((x233.length : Int) - 1)) 4)) (o_fa_w (k := 3) Tryz.underlying166 rfl Tryz.sizeOf4 rfl (len_map (inR_set g490 e500)) rfl rfl rfl) ?_
       refine u_st_w (enc := eTValueOpen) (ys := r498) (y' := (TValueOpen.mk ((at' r498 ((x233.length : Int) - 1)).fPairs) ((at' r498 ((x233.length : Int) - 1)).fLeft) ((at' r498 ((x233.length : Int) - 1)).fKey) ((at' r498 ((x233.length : Int) - 1)).fLast) true)) (i := 3) (j := (x233.length : Int) - 1) Tryz.sizeOf4 rfl rfl (one_c rfl) rfl (inR_set g490 e500) rfl rfl (H' := [.blk b473 (eTApiCell (at' v x235)) 78, .blk b2 (eTValueShape x236) 133, .blk b1 [rI .i64 0, rI .i64 0, rB false, rB false] 133, .row v234 166 5 (List.map eTValueOpen (List.set r498 (Int.toNat ((x233.length : Int) - 1)) (TValueOpen.mk ((at' r498 ((x233.length : Int) - 1)).fPairs) ((at' r498 ((x233.length : Int) - 1)).fLeft) ((at' r498 ((x233.length : Int) - 1)).fKey) ((at' r498 ((x233.length : Int) - 1)).fLast) true)))]) rfl ?_
       obtain ⟨r501, e503, h502⟩ := bnd_e h499
       rw [← e503]
       refine wv (r := rv (elp 5 v234 (Int.toNat ((x233.length : Int) - 1)) 0)) (o_nilcheck_w (k := 3) rfl (len_map (inR_set (inR_set g490 e500) e503)) rfl rfl) ?_
       refine wv (r := rv (elp 5 v234 (Int.toNat ((x233.length : Int) - 1)) 2)) (o_fa_w (k := 3) Tryz.underlying166 rfl Tryz.sizeOf4 rfl (len_map (inR_set (inR_set g490 e500) e503)) rfl rfl rfl) ?_
       refine u_st_w (enc := eTValueOpen) (ys := r501) (y' := (TValueOpen.mk ((at' r501 ((x233.length : Int) - 1)).fPairs) ((at' r501 ((x233.length : Int) - 1)).fLeft) false ((at' r501 ((x233.length : Int) - 1)).fLast) ((at' r501 ((x233.length : Int) - 1)).fStarted))) (i := 3) (j := (x233.length : Int) - 1) Tryz.sizeOf4 rfl rfl (one_c rfl) rfl (inR_set (inR_set g490 e500) e503) rfl rfl (H' := [.blk b473 (eTApiCell (at' v x235)) 78, .blk b2 (eTValueShape x236) 133, .blk b1 [rI .i64 0, rI .i64 0, rB false, rB false] 133, .row v234 166 5 (List.map eTValueOpen (List.set r501 (Int.toNat ((x233.length : Int) - 1)) (TValueOpen.mk ((at' r501 ((x233.length : Int) - 1)).fPairs) ((at' r501 ((x233.length : Int) - 1)).fLeft) false ((at' r501 ((x233.length : Int) - 1)).fLast) ((at' r501 ((x233.length : Int) - 1)).fStarted))))]) rfl ?_
       obtain ⟨r504, e506, h505⟩ := bnd_e h502
       rw [← e506]
       refine wl_x ?_
       refine wc_seq ?_
       obtain ⟨r507, e509, h508⟩ := obn_e h505
       obtain ⟨g510, h511⟩ := chk_e h508
       refine wc_rdk (H1 := [.blk b473 (eTApiCell (at' v x235)) 78, .blk b2 [rI .i64 x236.fDepth, rI .i64 (IntKind.wrap .i64 (x236.fBytes + (r507 + 1))), rB x236.fOutside, rB x236.fLong] 133, .blk b1 [rI .i64 0, rI .i64 0, rB false, rB false] 133, .row v234 166 5 (List.map eTValueOpen r504)]) [0, 3, 5, 6, 8, 11, 12, 13, 38, 39, 40, 41] [⟨[], rv (.pointer (some ⟨b2, 1, none⟩)), 0⟩, ⟨[0], rI .i64 x236.fBytes, 1⟩, ⟨[], rv (.pointer (some ⟨b473, 2, none⟩)), 0⟩, ⟨[2], rS ((at' v x235).fStr), 1⟩, ⟨[3], rI .i64 r507, 0⟩, ⟨[4], rI .i64 (r507 + 1), 0⟩, ⟨[1, 5], rI .i64 (IntKind.wrap .i64 (x236.fBytes + (r507 + 1))), 0⟩, ⟨[], rv (.pointer (some ⟨b2, 1, none⟩)), 0⟩, ⟨[7, 6], rv undef, 2⟩] (rle [(9, _), (1, [.blk b473 (eTApiCell (at' v x235)) 78, .blk b2 [rI .i64 x236.fDepth, rI .i64 (IntKind.wrap .i64 (x236.fBytes + (r507 + 1))), rB x236.fOutside, rB x236.fLong] 133, .blk b1 [rI .i64 0, rI .i64 0, rB false, rB false] 133, .row v234 166 5 (List.map eTValueOpen r504)])]) [68, 69, 70, 71, 72, 73, 74, 75, 0, 3, 5, 6, 8, 11, 12, 13, 38, 39, 40, 41] ?_ ?_
       ·refine oq (o_fieldAddr Tryz.underlying133 rfl Tryz.sizeOf3 rfl rfl) ?_
        refine of (o_load (i := 1) Tryz.isAgg3 rfl rfl rfl) ?_
        refine oq (o_fieldAddr Tryz.underlying78 rfl Tryz.sizeOf9 rfl rfl) ?_
        refine of (o_load (i := 0) Tryz.isAgg9 rfl rfl rfl) ?_
        refine obl_q rfl (fun H => ok_c0 Tryz.call145 (vQuoted_w ((at' v x235).fStr) r507 e509) rfl) ?_
        refine oq (o_add rfl rfl g510) ?_
        refine oq (o_addw rfl rfl) ?_
        refine oq (o_fieldAddr Tryz.underlying133 rfl Tryz.sizeOf3 rfl rfl) ?_
        refine obl_l rfl (ok_u (U_u_store (i := 1) Tryz.sizeOf3 rfl rfl (one_c rfl) rfl rfl (cs' := [rI .i64 x236.fDepth, rI .i64 (IntKind.wrap .i64 (x236.fBytes + (r507 + 1))), rB x236.fOutside, rB x236.fLong]) rfl (H' := [.blk b473 (eTApiCell (at' v x235)) 78, .blk b2 [rI .i64 x236.fDepth, rI .i64 (IntKind.wrap .i64 (x236.fBytes + (r507 + 1))), rB x236.fOutside, rB x236.fLong] 133, .blk b1 [rI .i64 0, rI .i64 0, rB false, rB false] 133, .row v234 166 5 (List.map eTValueOpen r504)]) rfl)) ?_
        exact obl_e
       refine wk_x ?_
       refine wc_seq_mid [(0, rSl 4 (List.map eTApiCell v)), (3, rv (.pointer (some ⟨b1, 0, none⟩))), (5, rv (.pointer (some ⟨b2, 0, none⟩))), (6, rv v234), (11, rSl 4 (List.map eTApiCell v)), (12, rI .i64 (v.length : Int)), (13, rI .i64 x235), (38, rv (.pointer (some ⟨b473, 0, none⟩))), (39, rI .i64 ((at' v x235).fKind)), (40, rB (!decide (((at' v x235).fKind) = 4))), (41, rB (!decide (((at' v x235).fKind) = 4))), (68, rv (.pointer (some ⟨b2, 1, none⟩))), (69, rI .i64 x236.fBytes), (70, rv (.pointer (some ⟨b473, 2, none⟩))), (71, rS ((at' v x235).fStr)), (72, rI .i64 r507), (73, rI .i64 (r507 + 1)), (74, rI .i64 (IntKind.wrap .i64 (x236.fBytes + (r507 + 1)))), (75, rv (.pointer (some ⟨b2, 1, none⟩)))] [.blk b473 (eTApiCell (at' v x235)) 78, .blk b2 [rI .i64 x236.fDepth, rI .i64 (IntKind.wrap .i64 (x236.fBytes + (r507 + 1))), rB x236.fOutside, rB (x236.fLong || (decide (200 < (((at' v x235).fStr).length : Int))))] 133, .blk b1 [rI .i64 0, rI .i64 0, rB false, rB false] 133, .row v234 166 5 (List.map eTValueOpen r504)] ?_ ?_
       ·refine wc_region ?_
        refine wv (o_fieldAddr Tryz.underlying133 rfl Tryz.sizeOf4 rfl rfl) ?_
        refine wv (o_load (i := 1) Tryz.isAgg4 rfl rfl rfl) ?_
        refine wm rfl ?_
        refine bsplit (x236.fLong) (fun c512 => ?_) (fun c512 => ?_)
        ·refine wf c512 ?_
         refine wf c512 ?_
         refine wf c512 ?_
         refine wf c512 ?_
         refine wv (r := rB true) (o_pick_t (b := x236.fLong) rfl c512 rfl) ?_
         refine wv (o_fieldAddr Tryz.underlying133 rfl Tryz.sizeOf4 rfl rfl) ?_
         refine u_store (i := 1) Tryz.sizeOf4 rfl rfl (one_c rfl) rfl rfl (cs' := [rI .i64 x236.fDepth, rI .i64 (IntKind.wrap .i64 (x236.fBytes + (r507 + 1))), rB x236.fOutside, rB true]) rfl (H' := [.blk b473 (eTApiCell (at' v x235)) 78, .blk b2 [rI .i64 x236.fDepth, rI .i64 (IntKind.wrap .i64 (x236.fBytes + (r507 + 1))), rB x236.fOutside, rB true] 133, .blk b1 [rI .i64 0, rI .i64 0, rB false, rB false] 133, .row v234 166 5 (List.map eTValueOpen r504)]) rfl ?_
         refine wl_nil ?_
         refine wk_asH (H' := [.blk b473 (eTApiCell (at' v x235)) 78, .blk b2 [rI .i64 x236.fDepth, rI .i64 (IntKind.wrap .i64 (x236.fBytes + (r507 + 1))), rB x236.fOutside, rB (x236.fLong || (decide (200 < (((at' v x235).fStr).length : Int))))] 133, .blk b1 [rI .i64 0, rI .i64 0, rB false, rB false] 133, .row v234 166 5 (List.map eTValueOpen r504)]) (by simp only [c512, Bool.true_and, Bool.false_and, Bool.true_or, Bool.false_or, Bool.and_true, Bool.and_false, Bool.or_true, Bool.or_false, Bool.not_true, Bool.not_false, cond_true, cond_false]) ?_
         exact wt
        ·refine wo c512 ?_
         refine wv (o_fieldAddr Tryz.underlying78 rfl Tryz.sizeOf9 rfl rfl) ?_
         refine wo c512 ?_
         refine wv (o_load (i := 0) Tryz.isAgg9 rfl rfl rfl) ?_
         refine wo c512 ?_
         refine wv (o_len_s Tryz.underlying9 rfl) ?_
         refine wo c512 ?_
         refine wv (o_gt rfl rfl) ?_
         refine wpf rfl c512 rfl ?_
         refine wv (o_fieldAddr Tryz.underlying133 rfl Tryz.sizeOf4 rfl rfl) ?_
         refine u_store (i := 1) Tryz.sizeOf4 rfl rfl (one_c rfl) rfl rfl (cs' := [rI .i64 x236.fDepth, rI .i64 (IntKind.wrap .i64 (x236.fBytes + (r507 + 1))), rB x236.fOutside, rB (decide (200 < (((at' v x235).fStr).length : Int)))]) rfl (H' := [.blk b473 (eTApiCell (at' v x235)) 78, .blk b2 [rI .i64 x236.fDepth, rI .i64 (IntKind.wrap .i64 (x236.fBytes + (r507 + 1))), rB x236.fOutside, rB (decide (200 < (((at' v x235).fStr).length : Int)))] 133, .blk b1 [rI .i64 0, rI .i64 0, rB false, rB false] 133, .row v234 166 5 (List.map eTValueOpen r504)]) rfl ?_
         refine wl_nil ?_
         refine wk_asH (H' := [.blk b473 (eTApiCell (at' v x235)) 78, .blk b2 [rI .i64 x236.fDepth, rI .i64 (IntKind.wrap .i64 (x236.fBytes + (r507 + 1))), rB x236.fOutside, rB (x236.fLong || (decide (200 < (((at' v x235).fStr).length : Int))))] 133, .blk b1 [rI .i64 0, rI .i64 0, rB false, rB false] 133, .row v234 166 5 (List.map eTValueOpen r504)]) (by simp only [c512, Bool.true_and, Bool.false_and, Bool.true_or, Bool.false_or, Bool.and_true, Bool.and_false, Bool.or_true, Bool.or_false, Bool.not_true, Bool.not_false, cond_true, cond_false]) ?_
         exact wt
       refine wc_exit ?_
       refine wk_then_exit ?_
       refine wk_in_hit ?_
       exact wk_then (wk_some ((r504, (TValueShape.mk x236.fDepth (IntKind.wrap .i64 (x236.fBytes + (r507 + 1))) x236.fOutside (x236.fLong || (decide (200 < (((at' v x235).fStr).length : Int)))))), v234) h511 (Sub.c rfl (Sub.c rfl (Sub.c5 rfl rfl rfl rfl rfl Sub.nil))) (sS (sC (sC (sC sN)))))
     ·have h513 := cnd_f c486 h484
      refine wc_skip ?_
      refine wk_x ?_
      refine wc_sr ?_
      refine wv (o_fieldAddr Tryz.underlying133 rfl Tryz.sizeOf3 rfl rfl) ?_
      refine wv (o_load (i := 1) Tryz.isAgg3 rfl rfl rfl) ?_
      refine wm rfl ?_
      refine wv (o_len_wt (ys := x233) (enc := eTValueOpen) (i := 3) Tryz.underlying164 rfl rfl) ?_
      obtain ⟨g514, h515⟩ := chk_e h513
      refine wv (o_add rfl rfl g514) ?_
      refine wv (o_max Tryz.underlying3 rfl rfl) ?_
      refine wv (o_fieldAddr Tryz.underlying133 rfl Tryz.sizeOf3 rfl rfl) ?_
      refine u_store (i := 1) Tryz.sizeOf3 rfl rfl (one_c rfl) rfl rfl (cs' := [rI .i64 (max x236.fDepth ((x233.length : Int) + 1)), rI .i64 x236.fBytes, rB x236.fOutside, rB x236.fLong]) rfl (H' := [.blk b473 (eTApiCell (at' v x235)) 78, .blk b2 [rI .i64 (max x236.fDepth ((x233.length : Int) + 1)), rI .i64 x236.fBytes, rB x236.fOutside, rB x236.fLong] 133, .blk b1 [rI .i64 0, rI .i64 0, rB false, rB false] 133, .row v234 166 5 (List.map eTValueOpen x233)]) rfl ?_
      refine wl_x ?_
      refine wc_seq ?_
      obtain ⟨r516, e518, h517⟩ := obn_e h515
      refine wc_rdk (H1 := [.blk b473 (eTApiCell (at' v x235)) 78, .blk b2 [rI .i64 (max x236.fDepth ((x233.length : Int) + 1)), rI .i64 (IntKind.wrap .i64 (x236.fBytes + r516)), rB x236.fOutside, rB x236.fLong] 133, .blk b1 [rI .i64 0, rI .i64 0, rB false, rB false] 133, .row v234 166 5 (List.map eTValueOpen x233)]) [0, 3, 5, 6, 7, 8, 11, 12, 13] [⟨[], rv (.pointer (some ⟨b2, 1, none⟩)), 0⟩, ⟨[0], rI .i64 x236.fBytes, 1⟩, ⟨[], rAgg (eTApiCell (at' v x235)), 1⟩, ⟨[2], rI .i64 r516, 0⟩, ⟨[1, 3], rI .i64 (IntKind.wrap .i64 (x236.fBytes + r516)), 0⟩, ⟨[], rv (.pointer (some ⟨b2, 1, none⟩)), 0⟩, ⟨[5, 4], rv undef, 2⟩] (rle [(7, _), (1, [.blk b473 (eTApiCell (at' v x235)) 78, .blk b2 [rI .i64 (max x236.fDepth ((x233.length : Int) + 1)), rI .i64 (IntKind.wrap .i64 (x236.fBytes + r516)), rB x236.fOutside, rB x236.fLong] 133, .blk b1 [rI .i64 0, rI .i64 0, rB false, rB false] 133, .row v234 166 5 (List.map eTValueOpen x233)])]) [92, 93, 94, 95, 96, 97, 0, 3, 5, 6, 7, 8, 11, 12, 13] ?_ ?_
      ·refine oq (o_fieldAddr Tryz.underlying133 rfl Tryz.sizeOf3 rfl rfl) ?_
       refine of (o_load (i := 1) Tryz.isAgg3 rfl rfl rfl) ?_
       refine of (o_load_agg (i := 0) Tryz.isAgg78 Tryz.sizeOf78 rfl rfl rfl rfl) ?_
       refine obl_q rfl (fun H => ok_c0 Tryz.call146 (vSize_w (at' v x235) r516 e518) rfl) ?_
       refine oq (o_addw rfl rfl) ?_
       refine oq (o_fieldAddr Tryz.underlying133 rfl Tryz.sizeOf3 rfl rfl) ?_
       refine obl_l rfl (ok_u (U_u_store (i := 1) Tryz.sizeOf3 rfl rfl (one_c rfl) rfl rfl (cs' := [rI .i64 (max x236.fDepth ((x233.length : Int) + 1)), rI .i64 (IntKind.wrap .i64 (x236.fBytes + r516)), rB x236.fOutside, rB x236.fLong]) rfl (H' := [.blk b473 (eTApiCell (at' v x235)) 78, .blk b2 [rI .i64 (max x236.fDepth ((x233.length : Int) + 1)), rI .i64 (IntKind.wrap .i64 (x236.fBytes + r516)), rB x236.fOutside, rB x236.fLong] 133, .blk b1 [rI .i64 0, rI .i64 0, rB false, rB false] 133, .row v234 166 5 (List.map eTValueOpen x233)]) rfl)) ?_
       exact obl_e
      refine wk_x ?_
      obtain ⟨g519, h520⟩ := chk_e h517
      refine wc_seq_mid [(0, rSl 4 (List.map eTApiCell v)), (3, rv (.pointer (some ⟨b1, 0, none⟩))), (5, rv (.pointer (some ⟨b2, 0, none⟩))), (6, rv v234), (7, rI .i64 x235), (8, rv (.pointer (some ⟨b473, 0, none⟩))), (11, rSl 4 (List.map eTApiCell v)), (12, rI .i64 (v.length : Int)), (13, rI .i64 x235), (92, rv (.pointer (some ⟨b2, 1, none⟩))), (93, rI .i64 x236.fBytes), (94, rAgg (eTApiCell (at' v x235))), (95, rI .i64 r516), (96, rI .i64 (IntKind.wrap .i64 (x236.fBytes + r516))), (97, rv (.pointer (some ⟨b2, 1, none⟩)))] [.blk b473 (eTApiCell (at' v x235)) 78, .blk b2 [rI .i64 (max x236.fDepth ((x233.length : Int) + 1)), rI .i64 (IntKind.wrap .i64 (x236.fBytes + r516)), rB (x236.fOutside || ((decide (((at' v x235).fKind) = 3)) && (!(ov (nValid ((at' v x235).fInt)))))), rB x236.fLong] 133, .blk b1 [rI .i64 0, rI .i64 0, rB false, rB false] 133, .row v234 166 5 (List.map eTValueOpen x233)] ?_ ?_
      ·refine wc_region ?_
       refine wv (o_fieldAddr Tryz.underlying133 rfl Tryz.sizeOf4 rfl rfl) ?_
       refine wv (o_load (i := 1) Tryz.isAgg4 rfl rfl rfl) ?_
       refine wm rfl ?_
       refine bsplit (x236.fOutside) (fun c521 => ?_) (fun c521 => ?_)
       ·refine wf c521 ?_
        refine wf c521 ?_
        refine wf c521 ?_
        refine wf c521 ?_
        refine wu ?_
        refine wu ?_
        refine wu ?_
        refine wu ?_
        refine wf c521 ?_
        refine wv (r := rB true) (o_pick_t (b := x236.fOutside) rfl c521 rfl) ?_
        refine wv (o_fieldAddr Tryz.underlying133 rfl Tryz.sizeOf4 rfl rfl) ?_
        refine u_store (i := 1) Tryz.sizeOf4 rfl rfl (one_c rfl) rfl rfl (cs' := [rI .i64 (max x236.fDepth ((x233.length : Int) + 1)), rI .i64 (IntKind.wrap .i64 (x236.fBytes + r516)), rB true, rB x236.fLong]) rfl (H' := [.blk b473 (eTApiCell (at' v x235)) 78, .blk b2 [rI .i64 (max x236.fDepth ((x233.length : Int) + 1)), rI .i64 (IntKind.wrap .i64 (x236.fBytes + r516)), rB true, rB x236.fLong] 133, .blk b1 [rI .i64 0, rI .i64 0, rB false, rB false] 133, .row v234 166 5 (List.map eTValueOpen x233)]) rfl ?_
        refine wl_nil ?_
        refine wk_asH (H' := [.blk b473 (eTApiCell (at' v x235)) 78, .blk b2 [rI .i64 (max x236.fDepth ((x233.length : Int) + 1)), rI .i64 (IntKind.wrap .i64 (x236.fBytes + r516)), rB (x236.fOutside || ((decide (((at' v x235).fKind) = 3)) && (!(ov (nValid ((at' v x235).fInt)))))), rB x236.fLong] 133, .blk b1 [rI .i64 0, rI .i64 0, rB false, rB false] 133, .row v234 166 5 (List.map eTValueOpen x233)]) (by simp only [c521, Bool.true_and, Bool.false_and, Bool.true_or, Bool.false_or, Bool.and_true, Bool.and_false, Bool.or_true, Bool.or_false, Bool.not_true, Bool.not_false, cond_true, cond_false]) ?_
        exact wt
       ·refine wo c521 ?_
        refine wv (o_fieldAddr Tryz.underlying78 rfl Tryz.sizeOf76 rfl rfl) ?_
        refine wo c521 ?_
        refine wv (o_load (i := 0) Tryz.isAgg76 rfl rfl rfl) ?_
        refine wo c521 ?_
        refine wv (o_eq rfl rfl) ?_
        refine wo c521 ?_
        refine wm rfl ?_
        refine bsplit (decide (((at' v x235).fKind) = 3)) (fun c522 => ?_) (fun c522 => ?_)
        ·refine wo c522 ?_
         refine wv (o_fieldAddr Tryz.underlying78 rfl Tryz.sizeOf3 rfl rfl) ?_
         refine wo c522 ?_
         refine wv (o_load (i := 0) Tryz.isAgg3 rfl rfl rfl) ?_
         refine wo c522 ?_
         refine wc0 Tryz.call99 (nValid_w ((at' v x235).fInt) (ov (nValid ((at' v x235).fInt))) (ov_e (imp_t (imp_f g519 c521) c522))) rfl ?_
         refine wo c522 ?_
         refine wv (o_not rfl) ?_
         refine wo c521 ?_
         refine wpt rfl c522 rfl ?_
         refine wpf rfl c521 rfl ?_
         refine wv (o_fieldAddr Tryz.underlying133 rfl Tryz.sizeOf4 rfl rfl) ?_
         refine u_store (i := 1) Tryz.sizeOf4 rfl rfl (one_c rfl) rfl rfl (cs' := [rI .i64 (max x236.fDepth ((x233.length : Int) + 1)), rI .i64 (IntKind.wrap .i64 (x236.fBytes + r516)), rB (!(ov (nValid ((at' v x235).fInt)))), rB x236.fLong]) rfl (H' := [.blk b473 (eTApiCell (at' v x235)) 78, .blk b2 [rI .i64 (max x236.fDepth ((x233.length : Int) + 1)), rI .i64 (IntKind.wrap .i64 (x236.fBytes + r516)), rB (!(ov (nValid ((at' v x235).fInt)))), rB x236.fLong] 133, .blk b1 [rI .i64 0, rI .i64 0, rB false, rB false] 133, .row v234 166 5 (List.map eTValueOpen x233)]) rfl ?_
         refine wl_nil ?_
         refine wk_asH (H' := [.blk b473 (eTApiCell (at' v x235)) 78, .blk b2 [rI .i64 (max x236.fDepth ((x233.length : Int) + 1)), rI .i64 (IntKind.wrap .i64 (x236.fBytes + r516)), rB (x236.fOutside || ((decide (((at' v x235).fKind) = 3)) && (!(ov (nValid ((at' v x235).fInt)))))), rB x236.fLong] 133, .blk b1 [rI .i64 0, rI .i64 0, rB false, rB false] 133, .row v234 166 5 (List.map eTValueOpen x233)]) (by simp only [c521, c522, Bool.true_and, Bool.false_and, Bool.true_or, Bool.false_or, Bool.and_true, Bool.and_false, Bool.or_true, Bool.or_false, Bool.not_true, Bool.not_false, cond_true, cond_false]) ?_
         exact wt
        ·refine wf c522 ?_
         refine wf c522 ?_
         refine wf c522 ?_
         refine wf c522 ?_
         refine wo c521 ?_
         refine wv (r := rB false) (o_pick_f (b := decide (((at' v x235).fKind) = 3)) rfl c522 rfl) ?_
         refine wpf rfl c521 rfl ?_
         refine wv (o_fieldAddr Tryz.underlying133 rfl Tryz.sizeOf4 rfl rfl) ?_
         refine u_store (i := 1) Tryz.sizeOf4 rfl rfl (one_c rfl) rfl rfl (cs' := [rI .i64 (max x236.fDepth ((x233.length : Int) + 1)), rI .i64 (IntKind.wrap .i64 (x236.fBytes + r516)), rB false, rB x236.fLong]) rfl (H' := [.blk b473 (eTApiCell (at' v x235)) 78, .blk b2 [rI .i64 (max x236.fDepth ((x233.length : Int) + 1)), rI .i64 (IntKind.wrap .i64 (x236.fBytes + r516)), rB false, rB x236.fLong] 133, .blk b1 [rI .i64 0, rI .i64 0, rB false, rB false] 133, .row v234 166 5 (List.map eTValueOpen x233)]) rfl ?_
         refine wl_nil ?_
         refine wk_asH (H' := [.blk b473 (eTApiCell (at' v x235)) 78, .blk b2 [rI .i64 (max x236.fDepth ((x233.length : Int) + 1)), rI .i64 (IntKind.wrap .i64 (x236.fBytes + r516)), rB (x236.fOutside || ((decide (((at' v x235).fKind) = 3)) && (!(ov (nValid ((at' v x235).fInt)))))), rB x236.fLong] 133, .blk b1 [rI .i64 0, rI .i64 0, rB false, rB false] 133, .row v234 166 5 (List.map eTValueOpen x233)]) (by simp only [c521, c522, Bool.true_and, Bool.false_and, Bool.true_or, Bool.false_or, Bool.and_true, Bool.and_false, Bool.or_true, Bool.or_false, Bool.not_true, Bool.not_false, cond_true, cond_false]) ?_
         exact wt
      refine wc_seq_mid [(0, rSl 4 (List.map eTApiCell v)), (3, rv (.pointer (some ⟨b1, 0, none⟩))), (5, rv (.pointer (some ⟨b2, 0, none⟩))), (6, rv v234), (7, rI .i64 x235), (8, rv (.pointer (some ⟨b473, 0, none⟩))), (11, rSl 4 (List.map eTApiCell v)), (12, rI .i64 (v.length : Int)), (13, rI .i64 x235), (92, rv (.pointer (some ⟨b2, 1, none⟩))), (93, rI .i64 x236.fBytes), (94, rAgg (eTApiCell (at' v x235))), (95, rI .i64 r516), (96, rI .i64 (IntKind.wrap .i64 (x236.fBytes + r516))), (97, rv (.pointer (some ⟨b2, 1, none⟩)))] [.blk b473 (eTApiCell (at' v x235)) 78, .blk b2 [rI .i64 (max x236.fDepth ((x233.length : Int) + 1)), rI .i64 (IntKind.wrap .i64 (x236.fBytes + r516)), rB (x236.fOutside || ((decide (((at' v x235).fKind) = 3)) && (!(ov (nValid ((at' v x235).fInt)))))), rB (x236.fLong || (decide (200 < (((at' v x235).fStr).length : Int))))] 133, .blk b1 [rI .i64 0, rI .i64 0, rB false, rB false] 133, .row v234 166 5 (List.map eTValueOpen x233)] ?_ ?_
      ·refine wc_region ?_
       refine wv (o_fieldAddr Tryz.underlying133 rfl Tryz.sizeOf4 rfl rfl) ?_
       refine wv (o_load (i := 1) Tryz.isAgg4 rfl rfl rfl) ?_
       refine wm rfl ?_
       refine bsplit (x236.fLong) (fun c523 => ?_) (fun c523 => ?_)
       ·refine wf c523 ?_
        refine wf c523 ?_
        refine wf c523 ?_
        refine wf c523 ?_
        refine wv (r := rB true) (o_pick_t (b := x236.fLong) rfl c523 rfl) ?_
        refine wv (o_fieldAddr Tryz.underlying133 rfl Tryz.sizeOf4 rfl rfl) ?_
        refine u_store (i := 1) Tryz.sizeOf4 rfl rfl (one_c rfl) rfl rfl (cs' := [rI .i64 (max x236.fDepth ((x233.length : Int) + 1)), rI .i64 (IntKind.wrap .i64 (x236.fBytes + r516)), rB (x236.fOutside || ((decide (((at' v x235).fKind) = 3)) && (!(ov (nValid ((at' v x235).fInt)))))), rB true]) rfl (H' := [.blk b473 (eTApiCell (at' v x235)) 78, .blk b2 [rI .i64 (max x236.fDepth ((x233.length : Int) + 1)), rI .i64 (IntKind.wrap .i64 (x236.fBytes + r516)), rB (x236.fOutside || ((decide (((at' v x235).fKind) = 3)) && (!(ov (nValid ((at' v x235).fInt)))))), rB true] 133, .blk b1 [rI .i64 0, rI .i64 0, rB false, rB false] 133, .row v234 166 5 (List.map eTValueOpen x233)]) rfl ?_
        refine wl_nil ?_
        refine wk_asH (H' := [.blk b473 (eTApiCell (at' v x235)) 78, .blk b2 [rI .i64 (max x236.fDepth ((x233.length : Int) + 1)), rI .i64 (IntKind.wrap .i64 (x236.fBytes + r516)), rB (x236.fOutside || ((decide (((at' v x235).fKind) = 3)) && (!(ov (nValid ((at' v x235).fInt)))))), rB (x236.fLong || (decide (200 < (((at' v x235).fStr).length : Int))))] 133, .blk b1 [rI .i64 0, rI .i64 0, rB false, rB false] 133, .row v234 166 5 (List.map eTValueOpen x233)]) (by simp only [c523, Bool.true_and, Bool.false_and, Bool.true_or, Bool.false_or, Bool.and_true, Bool.and_false, Bool.or_true, Bool.or_false, Bool.not_true, Bool.not_false, cond_true, cond_false]) ?_
        exact wt
       ·refine wo c523 ?_
        refine wv (o_fieldAddr Tryz.underlying78 rfl Tryz.sizeOf9 rfl rfl) ?_
        refine wo c523 ?_
        refine wv (o_load (i := 0) Tryz.isAgg9 rfl rfl rfl) ?_
        refine wo c523 ?_
        refine wv (o_len_s Tryz.underlying9 rfl) ?_
        refine wo c523 ?_
        refine wv (o_gt rfl rfl) ?_
        refine wpf rfl c523 rfl ?_
        refine wv (o_fieldAddr Tryz.underlying133 rfl Tryz.sizeOf4 rfl rfl) ?_
        refine u_store (i := 1) Tryz.sizeOf4 rfl rfl (one_c rfl) rfl rfl (cs' := [rI .i64 (max x236.fDepth ((x233.length : Int) + 1)), rI .i64 (IntKind.wrap .i64 (x236.fBytes + r516)), rB (x236.fOutside || ((decide (((at' v x235).fKind) = 3)) && (!(ov (nValid ((at' v x235).fInt)))))), rB (decide (200 < (((at' v x235).fStr).length : Int)))]) rfl (H' := [.blk b473 (eTApiCell (at' v x235)) 78, .blk b2 [rI .i64 (max x236.fDepth ((x233.length : Int) + 1)), rI .i64 (IntKind.wrap .i64 (x236.fBytes + r516)), rB (x236.fOutside || ((decide (((at' v x235).fKind) = 3)) && (!(ov (nValid ((at' v x235).fInt)))))), rB (decide (200 < (((at' v x235).fStr).length : Int)))] 133, .blk b1 [rI .i64 0, rI .i64 0, rB false, rB false] 133, .row v234 166 5 (List.map eTValueOpen x233)]) rfl ?_
        refine wl_nil ?_
        refine wk_asH (H' := [.blk b473 (eTApiCell (at' v x235)) 78, .blk b2 [rI .i64 (max x236.fDepth ((x233.length : Int) + 1)), rI .i64 (IntKind.wrap .i64 (x236.fBytes + r516)), rB (x236.fOutside || ((decide (((at' v x235).fKind) = 3)) && (!(ov (nValid ((at' v x235).fInt)))))), rB (x236.fLong || (decide (200 < (((at' v x235).fStr).length : Int))))] 133, .blk b1 [rI .i64 0, rI .i64 0, rB false, rB false] 133, .row v234 166 5 (List.map eTValueOpen x233)]) (by simp only [c523, Bool.true_and, Bool.false_and, Bool.true_or, Bool.false_or, Bool.and_true, Bool.and_false, Bool.or_true, Bool.or_false, Bool.not_true, Bool.not_false, cond_true, cond_false]) ?_
        exact wt
      refine wc_seq ?_
      refine wc_sr ?_
      refine wv (o_fieldAddr Tryz.underlying78 rfl Tryz.sizeOf3 rfl rfl) ?_
      refine wv (o_load (i := 0) Tryz.isAgg3 rfl rfl rfl) ?_
      refine wv (o_gt rfl rfl) ?_
      refine wl_x ?_
      refine wc_cond (b := decide (0 < ((at' v x235).fN))) rfl (fun c524 => ?_) (fun c524 => ?_)
      ·have h525 := cnd_t c524 h520
       refine wc_seq ?_
       refine wc_sr ?_
       refine wv (o_fieldAddr Tryz.underlying78 rfl Tryz.sizeOf3 rfl rfl) ?_
       refine wv (o_load (i := 0) Tryz.isAgg3 rfl rfl rfl) ?_
       refine wm rfl ?_
       refine wv (o_len_zt (ys := v) (enc := eTApiCell) Tryz.underlying33 rfl) ?_
       refine wv (o_gt rfl rfl) ?_
       refine wl_x ?_
       refine wc_cond (b := decide ((v.length : Int) < ((at' v x235).fN))) rfl (fun c526 => ?_) (fun c526 => ?_)
       ·have h527 := cnd_t c526 h525
        refine wc_seq ?_
        refine wc_rdk (H1 := [.blk b473 (eTApiCell (at' v x235)) 78, .blk b2 [rI .i64 (max x236.fDepth ((x233.length : Int) + 1)), rI .i64 (IntKind.wrap .i64 (x236.fBytes + r516)), rB (x236.fOutside || ((decide (((at' v x235).fKind) = 3)) && (!(ov (nValid ((at' v x235).fInt)))))), rB (x236.fLong || (decide (200 < (((at' v x235).fStr).length : Int))))] 133, .blk b1 [rI .i64 (max x236.fDepth ((x233.length : Int) + 1)), rI .i64 (IntKind.wrap .i64 (x236.fBytes + r516)), rB (x236.fOutside || ((decide (((at' v x235).fKind) = 3)) && (!(ov (nValid ((at' v x235).fInt)))))), rB (x236.fLong || (decide (200 < (((at' v x235).fStr).length : Int))))] 133, .row v234 166 5 (List.map eTValueOpen x233)]) [3, 5] [⟨[], rAgg [rI .i64 (max x236.fDepth ((x233.length : Int) + 1)), rI .i64 (IntKind.wrap .i64 (x236.fBytes + r516)), rB (x236.fOutside || ((decide (((at' v x235).fKind) = 3)) && (!(ov (nValid ((at' v x235).fInt)))))), rB (x236.fLong || (decide (200 < (((at' v x235).fStr).length : Int))))], 1⟩, ⟨[], rI .i64 0, 0⟩, ⟨[0], rv undef, 2⟩, ⟨[], rB false, 0⟩] (rle [(3, _), (2, [.blk b473 (eTApiCell (at' v x235)) 78, .blk b2 [rI .i64 (max x236.fDepth ((x233.length : Int) + 1)), rI .i64 (IntKind.wrap .i64 (x236.fBytes + r516)), rB (x236.fOutside || ((decide (((at' v x235).fKind) = 3)) && (!(ov (nValid ((at' v x235).fInt)))))), rB (x236.fLong || (decide (200 < (((at' v x235).fStr).length : Int))))] 133, .blk b1 [rI .i64 (max x236.fDepth ((x233.length : Int) + 1)), rI .i64 (IntKind.wrap .i64 (x236.fBytes + r516)), rB (x236.fOutside || ((decide (((at' v x235).fKind) = 3)) && (!(ov (nValid ((at' v x235).fInt)))))), rB (x236.fLong || (decide (200 < (((at' v x235).fStr).length : Int))))] 133, .row v234 166 5 (List.map eTValueOpen x233)])]) [2, 4, 3] ?_ ?_
        ·refine of (o_load_agg (i := 1) Tryz.isAgg133 Tryz.sizeOf133 rfl rfl rfl rfl) ?_
         refine oq (o_assign rfl) ?_
         refine obl_l rfl (ok_u (U_u_store_agg (i := 2) Tryz.sizeOf133 rfl rfl rfl (OneAll.c rfl) rfl rfl (cs' := [rI .i64 (max x236.fDepth ((x233.length : Int) + 1)), rI .i64 (IntKind.wrap .i64 (x236.fBytes + r516)), rB (x236.fOutside || ((decide (((at' v x235).fKind) = 3)) && (!(ov (nValid ((at' v x235).fInt)))))), rB (x236.fLong || (decide (200 < (((at' v x235).fStr).length : Int))))]) rfl (H' := [.blk b473 (eTApiCell (at' v x235)) 78, .blk b2 [rI .i64 (max x236.fDepth ((x233.length : Int) + 1)), rI .i64 (IntKind.wrap .i64 (x236.fBytes + r516)), rB (x236.fOutside || ((decide (((at' v x235).fKind) = 3)) && (!(ov (nValid ((at' v x235).fInt)))))), rB (x236.fLong || (decide (200 < (((at' v x235).fStr).length : Int))))] 133, .blk b1 [rI .i64 (max x236.fDepth ((x233.length : Int) + 1)), rI .i64 (IntKind.wrap .i64 (x236.fBytes + r516)), rB (x236.fOutside || ((decide (((at' v x235).fKind) = 3)) && (!(ov (nValid ((at' v x235).fInt)))))), rB (x236.fLong || (decide (200 < (((at' v x235).fStr).length : Int))))] 133, .row v234 166 5 (List.map eTValueOpen x233)]) rfl)) ?_
         refine oq (o_assign rfl) ?_
         exact obl_e
        refine wk_x ?_
        refine wc_ret ?_
        refine wk_then_ret ?_
        refine wk_then_ret ?_
        refine wk_in_ret ?_
        refine wk_then_ret ?_
        refine wk_then_ret ?_
        refine wk_cut_ret ?_
        have h528 := stp_ret h527 ht391 hK389
        refine wk_in_ret ?_
        refine wk_then_ret ?_
        refine wk_ng_r ?_
        obtain rfl := some_e h528
        exact wk_ret (r_3 Tryz.results106 (rv_t rfl) (rv_ca (i := 2) Tryz.isAgg133 Tryz.sizeOf133 rfl rfl rfl) (rv_t rfl)) (sS (sS (sS (sS sN)))) ⟨rfl, rfl⟩
       ·have h529 := cnd_f c526 h525
        refine wc_skip ?_
        refine wk_x ?_
        refine wc_sr ?_
        refine wm rfl ?_
        refine wv (o_fieldAddr Tryz.underlying78 rfl Tryz.sizeOf76 rfl rfl) ?_
        refine wv (o_load (i := 0) Tryz.isAgg76 rfl rfl rfl) ?_
        refine wv (o_eq rfl rfl) ?_
        refine wv (o_fieldAddr Tryz.underlying78 rfl Tryz.sizeOf3 rfl rfl) ?_
        refine wv (o_load (i := 0) Tryz.isAgg3 rfl rfl rfl) ?_
        refine wv (o_fieldAddr Tryz.underlying78 rfl Tryz.sizeOf76 rfl rfl) ?_
        refine wv (o_load (i := 0) Tryz.isAgg76 rfl rfl rfl) ?_
        refine wv (o_eq rfl rfl) ?_
        refine wv (r := rAgg [rB (decide (((at' v x235).fKind) = 6)), rI .i64 ((at' v x235).fN), rB (decide (((at' v x235).fKind) = 6)), rS ([] : Str), rB false]) (o_build166_0_1_2 rfl rfl rfl rfl rfl rfl) ?_
        refine w_buildSlice (ys := ([(TValueOpen.mk (decide (((at' v x235).fKind) = 6)) ((at' v x235).fN) (decide (((at' v x235).fKind) = 6)) ([] : Str) false)] : List TValueOpen)) (enc := eTValueOpen) (css := [[rB (decide (((at' v x235).fKind) = 6)), rI .i64 ((at' v x235).fN), rB (decide (((at' v x235).fKind) = 6)), rS ([] : Str), rB false]]) (xs := [.tmp 139]) Tryz.underlying164 Tryz.sizeOf166 Tryz.zeroValue166 rfl rfl rfl ⟨Cel.agg ⟨Up.refl _, Up.refl _, Up.refl _, Up.refl _, Up.refl _, trivial⟩, trivial⟩ rfl eTValueOpen_len rfl rfl rfl (fun b530 => ?_)
        obtain ⟨g532, h533⟩ := chk_e h529
        obtain ⟨inf, hinf⟩ := info166
        refine w_append (xs := x233) (ys := ([(TValueOpen.mk (decide (((at' v x235).fKind) = 6)) ((at' v x235).fN) (decide (((at' v x235).fKind) = 6)) ([] : Str) false)] : List TValueOpen)) (enc := eTValueOpen) (i := 4) Tryz.underlying164 hinf.1 hinf.2.1 hinf.2.2.1 hinf.2.2.2 rfl rfl rfl rfl rfl (Src.w (i := 0) rfl rfl) eTValueOpen_len eTValueOpen_one g532 rfl (fun v531 => ?_)
        refine wa rfl ?_
        refine wl_x ?_
        refine wc_exit ?_
        refine wk_then_exit ?_
        refine wk_in_hit ?_
        refine wk_perm (H2 := [.blk b2 [rI .i64 (max x236.fDepth ((x233.length : Int) + 1)), rI .i64 (IntKind.wrap .i64 (x236.fBytes + r516)), rB (x236.fOutside || ((decide (((at' v x235).fKind) = 3)) && (!(ov (nValid ((at' v x235).fInt)))))), rB (x236.fLong || (decide (200 < (((at' v x235).fStr).length : Int))))] 133, .blk b1 [rI .i64 0, rI .i64 0, rB false, rB false] 133, .row v531 166 5 (List.map eTValueOpen (x233 ++ ([(TValueOpen.mk (decide (((at' v x235).fKind) = 6)) ((at' v x235).fN) (decide (((at' v x235).fKind) = 6)) ([] : Str) false)] : List TValueOpen))), .row (.slice (some ⟨b530, 0, none⟩) 1 1) 166 5 (List.map eTValueOpen ([(TValueOpen.mk (decide (((at' v x235).fKind) = 6)) ((at' v x235).fN) (decide (((at' v x235).fKind) = 6)) ([] : Str) false)] : List TValueOpen)), .blk b473 (eTApiCell (at' v x235)) 78]) ((perm_front (i := 3) rfl).trans (List.Perm.cons _ ((perm_front (i := 3) rfl).trans (List.Perm.cons _ (List.Perm.refl _))))) ?_
        exact wk_then (wk_some ((x233 ++ ([(TValueOpen.mk (decide (((at' v x235).fKind) = 6)) ((at' v x235).fN) (decide (((at' v x235).fKind) = 6)) ([] : Str) false)] : List TValueOpen), (TValueShape.mk (max x236.fDepth ((x233.length : Int) + 1)) (IntKind.wrap .i64 (x236.fBytes + r516)) (x236.fOutside || ((decide (((at' v x235).fKind) = 3)) && (!(ov (nValid ((at' v x235).fInt)))))) (x236.fLong || (decide (200 < (((at' v x235).fStr).length : Int)))))), v531) h533 (Sub.c rfl (Sub.c rfl (Sub.c5 rfl rfl rfl rfl rfl Sub.nil))) (sC (sC (sC (sS (sS sN))))))
      ·have h534 := cnd_f c524 h520
       refine wc_skip ?_
       refine wk_x ?_
       refine wc_sr ?_
       refine wm rfl ?_
       obtain ⟨r535, e537, h536⟩ := obn_e h534
       refine wcl (Hr := [.blk b473 (eTApiCell (at' v x235)) 78, .blk b2 [rI .i64 (max x236.fDepth ((x233.length : Int) + 1)), rI .i64 (IntKind.wrap .i64 (x236.fBytes + r516)), rB (x236.fOutside || ((decide (((at' v x235).fKind) = 3)) && (!(ov (nValid ((at' v x235).fInt)))))), rB (x236.fLong || (decide (200 < (((at' v x235).fStr).length : Int))))] 133, .blk b1 [rI .i64 0, rI .i64 0, rB false, rB false] 133]) Tryz.call147 (vClosed_w F v234 x233 r535 e537) rfl ((perm_front (i := 3) rfl).trans (List.Perm.cons _ (List.Perm.refl _))) rfl ?_
       rintro _ _ ⟨v538, rfl, rfl⟩
       refine wa rfl ?_
       refine wl_y ?_
       refine wm rfl ?_
       refine wv (o_len_wt (ys := r535) (enc := eTValueOpen) (i := 0) Tryz.underlying164 rfl rfl) ?_
       refine wv (o_eq rfl rfl) ?_
       refine wl_x ?_
       refine wc_cond (b := decide ((r535.length : Int) = 0)) rfl (fun c539 => ?_) (fun c539 => ?_)
       ·have h540 := cnd_t c539 h536
        refine wc_seq ?_
        obtain ⟨g541, h542⟩ := chk_e h540
        refine wc_rdk (H1 := [.row v538 166 5 (List.map eTValueOpen r535), .blk b473 (eTApiCell (at' v x235)) 78, .blk b2 [rI .i64 (max x236.fDepth ((x233.length : Int) + 1)), rI .i64 (IntKind.wrap .i64 (x236.fBytes + r516)), rB (x236.fOutside || ((decide (((at' v x235).fKind) = 3)) && (!(ov (nValid ((at' v x235).fInt)))))), rB (x236.fLong || (decide (200 < (((at' v x235).fStr).length : Int))))] 133, .blk b1 [rI .i64 (max x236.fDepth ((x233.length : Int) + 1)), rI .i64 (IntKind.wrap .i64 (x236.fBytes + r516)), rB (x236.fOutside || ((decide (((at' v x235).fKind) = 3)) && (!(ov (nValid ((at' v x235).fInt)))))), rB (x236.fLong || (decide (200 < (((at' v x235).fStr).length : Int))))] 133]) [3, 5, 7] [⟨[], rI .i64 x235, 0⟩, ⟨[0], rI .i64 (x235 + 1), 0⟩, ⟨[], rAgg [rI .i64 (max x236.fDepth ((x233.length : Int) + 1)), rI .i64 (IntKind.wrap .i64 (x236.fBytes + r516)), rB (x236.fOutside || ((decide (((at' v x235).fKind) = 3)) && (!(ov (nValid ((at' v x235).fInt)))))), rB (x236.fLong || (decide (200 < (((at' v x235).fStr).length : Int))))], 1⟩, ⟨[1], rI .i64 (x235 + 1), 0⟩, ⟨[2], rv undef, 2⟩, ⟨[], rB true, 0⟩] (rle [(5, _), (2, [.row v538 166 5 (List.map eTValueOpen r535), .blk b473 (eTApiCell (at' v x235)) 78, .blk b2 [rI .i64 (max x236.fDepth ((x233.length : Int) + 1)), rI .i64 (IntKind.wrap .i64 (x236.fBytes + r516)), rB (x236.fOutside || ((decide (((at' v x235).fKind) = 3)) && (!(ov (nValid ((at' v x235).fInt)))))), rB (x236.fLong || (decide (200 < (((at' v x235).fStr).length : Int))))] 133, .blk b1 [rI .i64 (max x236.fDepth ((x233.length : Int) + 1)), rI .i64 (IntKind.wrap .i64 (x236.fBytes + r516)), rB (x236.fOutside || ((decide (((at' v x235).fKind) = 3)) && (!(ov (nValid ((at' v x235).fInt)))))), rB (x236.fLong || (decide (200 < (((at' v x235).fStr).length : Int))))] 133])]) [2, 4, 3] ?_ ?_
        ·refine oq (o_move rfl) ?_
         refine oq (o_add rfl rfl g541) ?_
         refine of (o_load_agg (i := 2) Tryz.isAgg133 Tryz.sizeOf133 rfl rfl rfl rfl) ?_
         refine oq (o_assign rfl) ?_
         refine obl_l rfl (ok_u (U_u_store_agg (i := 3) Tryz.sizeOf133 rfl rfl rfl (OneAll.c rfl) rfl rfl (cs' := [rI .i64 (max x236.fDepth ((x233.length : Int) + 1)), rI .i64 (IntKind.wrap .i64 (x236.fBytes + r516)), rB (x236.fOutside || ((decide (((at' v x235).fKind) = 3)) && (!(ov (nValid ((at' v x235).fInt)))))), rB (x236.fLong || (decide (200 < (((at' v x235).fStr).length : Int))))]) rfl (H' := [.row v538 166 5 (List.map eTValueOpen r535), .blk b473 (eTApiCell (at' v x235)) 78, .blk b2 [rI .i64 (max x236.fDepth ((x233.length : Int) + 1)), rI .i64 (IntKind.wrap .i64 (x236.fBytes + r516)), rB (x236.fOutside || ((decide (((at' v x235).fKind) = 3)) && (!(ov (nValid ((at' v x235).fInt)))))), rB (x236.fLong || (decide (200 < (((at' v x235).fStr).length : Int))))] 133, .blk b1 [rI .i64 (max x236.fDepth ((x233.length : Int) + 1)), rI .i64 (IntKind.wrap .i64 (x236.fBytes + r516)), rB (x236.fOutside || ((decide (((at' v x235).fKind) = 3)) && (!(ov (nValid ((at' v x235).fInt)))))), rB (x236.fLong || (decide (200 < (((at' v x235).fStr).length : Int))))] 133]) rfl)) ?_
         refine oq (o_assign rfl) ?_
         exact obl_e
        refine wk_x ?_
        refine wc_ret ?_
        refine wk_in_ret ?_
        refine wk_then_ret ?_
        refine wk_then_ret ?_
        refine wk_cut_ret ?_
        have h543 := stp_ret h542 ht391 hK389
        refine wk_in_ret ?_
        refine wk_then_ret ?_
        refine wk_ng_r ?_
        obtain rfl := some_e h543
        exact wk_ret (r_3 Tryz.results106 (rv_t rfl) (rv_ca (i := 3) Tryz.isAgg133 Tryz.sizeOf133 rfl rfl rfl) (rv_t rfl)) (sS (sS (sS (sS sN)))) ⟨rfl, rfl⟩
       ·have h544 := cnd_f c539 h536
        refine wc_skip ?_
        refine wk_in_norm ?_
        refine wk_perm (H2 := [.blk b2 [rI .i64 (max x236.fDepth ((x233.length : Int) + 1)), rI .i64 (IntKind.wrap .i64 (x236.fBytes + r516)), rB (x236.fOutside || ((decide (((at' v x235).fKind) = 3)) && (!(ov (nValid ((at' v x235).fInt)))))), rB (x236.fLong || (decide (200 < (((at' v x235).fStr).length : Int))))] 133, .blk b1 [rI .i64 0, rI .i64 0, rB false, rB false] 133, .row v538 166 5 (List.map eTValueOpen r535), .blk b473 (eTApiCell (at' v x235)) 78]) ((perm_front (i := 2) rfl).trans (List.Perm.cons _ ((perm_front (i := 2) rfl).trans (List.Perm.cons _ (List.Perm.refl _))))) ?_
        exact wk_then (wk_some ((r535, (TValueShape.mk (max x236.fDepth ((x233.length : Int) + 1)) (IntKind.wrap .i64 (x236.fBytes + r516)) (x236.fOutside || ((decide (((at' v x235).fKind) = 3)) && (!(ov (nValid ((at' v x235).fInt)))))) (x236.fLong || (decide (200 < (((at' v x235).fStr).length : Int)))))), v538) h544 (Sub.c rfl (Sub.c rfl (Sub.c5 rfl rfl rfl rfl rfl Sub.nil))) (sC (sC (sC (sS sN)))))
   ·rintro ⟨⟨x468, x470⟩, v469⟩ h545
    refine wc_as (l' := [(0, rSl 4 (List.map eTApiCell v)), (3, rv (.pointer (some ⟨b1, 0, none⟩))), (5, rv (.pointer (some ⟨b2, 0, none⟩))), (6, rv v469), (11, rSl 4 (List.map eTApiCell v)), (12, rI .i64 (v.length : Int)), (13, rI .i64 x235)]) (H' := [.blk b2 (eTValueShape x470) 133, .blk b1 [rI .i64 0, rI .i64 0, rB false, rB false] 133, .row v469 166 5 (List.map eTValueOpen x468)]) rfl rfl ?_
    replace h545 : vLook_j2 x235 x468 x470 = some t390 := h545
    unfold vLook_j2 at h545
    refine wc_region ?_
    obtain ⟨g546, h547⟩ := chk_e h545
    refine wv (o_add rfl rfl g546) ?_
    refine wm rfl ?_
    refine wl_nil ?_
    have h548 := stp_next h547 ht391
    exact wk_then (wk_some (m392, (x468, x235 + 1, x470), v469) ⟨h548, Nat.lt_succ_self _⟩ (Sub.c rfl (Sub.c rfl (Sub.c5 rfl rfl rfl rfl rfl Sub.nil))) (sC (sC (sC sN))))
  ·have h549 := cnd_f c396 h394
   refine wc_exit ?_
   refine wk_then_exit ?_
   have h550 := stp_go h549 ht391 hK389
   exact wk_then_exit (wk_cut_hit (wk_some (x236, ()) h550 (Sub.c rfl (Sub.c rfl Sub.nil)) (sC (sC (sS sN)))))
 ·rintro ⟨x386, ⟨⟩⟩ h551
  refine wk_as (l' := [(3, rv (.pointer (some ⟨b1, 0, none⟩))), (5, rv (.pointer (some ⟨b2, 0, none⟩)))]) (H' := [.blk b2 (eTValueShape x386) 133, .blk b1 [rI .i64 0, rI .i64 0, rB false, rB false] 133]) rfl rfl ?_
  replace h551 : vLook_k1 x386 = some r := h551
  unfold vLook_k1 at h551
  refine wk_in_hit ?_
  refine wk_x ?_
  refine wc_seq ?_
  refine wc_rdk (H1 := [.blk b2 (eTValueShape x386) 133, .blk b1 (eTValueShape x386) 133]) [3, 5] [⟨[], rAgg (eTValueShape x386), 1⟩, ⟨[], rI .i64 0, 0⟩, ⟨[0], rv undef, 2⟩, ⟨[], rB false, 0⟩] (rle [(3, _), (2, [.blk b2 (eTValueShape x386) 133, .blk b1 (eTValueShape x386) 133])]) [2, 4, 3] ?_ ?_
  ·refine of (o_load_agg (i := 0) Tryz.isAgg133 Tryz.sizeOf133 rfl rfl rfl rfl) ?_
   refine oq (o_assign rfl) ?_
   refine obl_l rfl (ok_u (U_u_store_agg (i := 1) Tryz.sizeOf133 rfl rfl rfl (OneAll.c rfl) rfl rfl (cs' := [rI .i64 x386.fDepth, rI .i64 x386.fBytes, rB x386.fOutside, rB x386.fLong]) rfl (H' := [.blk b2 (eTValueShape x386) 133, .blk b1 (eTValueShape x386) 133]) rfl)) ?_
   refine oq (o_assign rfl) ?_
   exact obl_e
  refine wk_x ?_
  refine wc_ret ?_
  refine wk_ng_r ?_
  obtain rfl := some_e h551
  exact wk_ret (r_3 Tryz.results106 (rv_t rfl) (rv_ca (i := 1) Tryz.isAgg133 Tryz.sizeOf133 rfl rfl rfl) (rv_t rfl)) (sS (sS sN)) ⟨rfl, rfl⟩

theorem vCheck_w (F : Nat) (v : (List TApiCell)) (r : Int) (h : vCheck F v = some r) : Fn Tryz.prog GE 80 [rSl 4 (List.map eTApiCell v)] [] (fun R H => R = rI .i64 r ∧ H = []) := by
 refine enter (n := 42) Tryz.func80 rfl Tryz.ntmps80 rfl (fun w Z => ?_)
 refine wc_as (l' := [(0, rSl 4 (List.map eTApiCell v))]) (H' := []) rfl rfl ?_
 unfold vCheck at h
 refine wc_sr ?_
 refine wv (r := rI .i64 0) (o_assign rfl) ?_
 refine wl_y ?_
 refine wm rfl ?_
 obtain ⟨r1, e3, h2⟩ := obn_e h
 refine wc0 Tryz.call106 (vLook_w F v r1 e3) rfl ?_
 refine wm rfl ?_
 refine wv (o_extract rfl rfl) ?_
 refine wv (o_extract rfl rfl) ?_
 refine wv (o_extract rfl rfl) ?_
 refine w_alloc (cs := [rI .i64 0, rI .i64 0, rB false, rB false]) Tryz.zeroValue133 rfl rfl (fun b4 => ?_)
 refine wa rfl ?_
 refine u_store_agg (i := 0) Tryz.sizeOf133 rfl rfl rfl (OneAll.c rfl) rfl rfl (cs' := [rI .i64 r1.2.1.fDepth, rI .i64 r1.2.1.fBytes, rB r1.2.1.fOutside, rB r1.2.1.fLong]) rfl (H' := [.blk b4 (eTValueShape r1.2.1) 133]) rfl ?_
 refine wa rfl ?_
 refine wl_x ?_
 refine wc_seq ?_
 refine wc_block ?_
 refine wc_seq_mid [(0, rSl 4 (List.map eTApiCell v)), (4, rv (.pointer (some ⟨b4, 0, none⟩))), (12, rB ((!r1.2.2) || (!decide (r1.1 = (v.length : Int)))))] [.blk b4 (eTValueShape r1.2.1) 133] ?_ ?_
 ·refine wc_region ?_
  refine wm rfl ?_
  refine wv (o_not rfl) ?_
  refine wm rfl ?_
  refine bsplit (!r1.2.2) (fun c5 => ?_) (fun c5 => ?_)
  ·refine wf c5 ?_
   refine wf c5 ?_
   refine wf c5 ?_
   refine wf c5 ?_
   refine wv (r := rB true) (o_pick_t (b := !r1.2.2) rfl c5 rfl) ?_
   refine wa rfl ?_
   refine wl_nil ?_
   exact wtc c5
  ·refine wo c5 ?_
   refine wm rfl ?_
   refine wo c5 ?_
   refine wm rfl ?_
   refine wo c5 ?_
   refine wv (o_len_zt (ys := v) (enc := eTApiCell) Tryz.underlying33 rfl) ?_
   refine wo c5 ?_
   refine wv (o_ne rfl rfl) ?_
   refine wpf rfl c5 rfl ?_
   refine wa rfl ?_
   refine wl_nil ?_
   exact wtc c5
 refine wc_cond (b := ((!r1.2.2) || (!decide (r1.1 = (v.length : Int))))) rfl (fun c6 => ?_) (fun c6 => ?_)
 ·have h7 := cnd_t c6 h2
  refine wc_sr ?_
  refine wv (r := rI .i64 1) (o_assign rfl) ?_
  refine wl_x ?_
  refine wc_ret ?_
  refine wk_in_ret ?_
  refine wk_then_ret ?_
  obtain rfl := some_e h7
  exact wk_ret (r_1 Tryz.results80 (rv_t rfl)) (sS sN) ⟨rfl, rfl⟩
 ·have h8 := cnd_f c6 h2
  refine wc_sr ?_
  refine wv (o_fieldAddr Tryz.underlying133 rfl Tryz.sizeOf4 rfl rfl) ?_
  refine wv (o_load (i := 0) Tryz.isAgg4 rfl rfl rfl) ?_
  refine wa rfl ?_
  refine wl_x ?_
  refine wc_cond (b := r1.2.1.fOutside) rfl (fun c9 => ?_) (fun c9 => ?_)
  ·have h10 := cnd_t c9 h8
   refine wc_sr ?_
   refine wv (r := rI .i64 2) (o_assign rfl) ?_
   refine wl_x ?_
   refine wc_ret ?_
   refine wk_in_ret ?_
   refine wk_then_ret ?_
   obtain rfl := some_e h10
   exact wk_ret (r_1 Tryz.results80 (rv_t rfl)) (sS sN) ⟨rfl, rfl⟩
  ·have h11 := cnd_f c9 h8
   refine wc_seq_mid [(24, rB (r1.2.1.fLong || ((decide (200 < (v.length : Int))) || ((decide (8 < r1.2.1.fDepth)) || (decide (4000 < r1.2.1.fBytes))))))] [] ?_ ?_
   ·refine wc_region ?_
    refine wv (o_fieldAddr Tryz.underlying133 rfl Tryz.sizeOf4 rfl rfl) ?_
    refine wv (o_load (i := 0) Tryz.isAgg4 rfl rfl rfl) ?_
    refine wm rfl ?_
    refine bsplit (r1.2.1.fLong) (fun c12 => ?_) (fun c12 => ?_)
    ·refine wf c12 ?_
     refine wf c12 ?_
     refine wf c12 ?_
     refine wv (r := rB true) (o_pick_t (b := r1.2.1.fLong) rfl c12 rfl) ?_
     refine wm rfl ?_
     refine wl_off (b := true) rfl rfl rfl rfl ?_
     refine wl_off (b := true) rfl rfl rfl rfl ?_
     refine wl_off (b := true) rfl rfl rfl rfl ?_
     refine wv (r := rB true) (o_pick_t (b := true) rfl rfl rfl) ?_
     refine wm rfl ?_
     refine wl_off (b := true) rfl rfl rfl rfl ?_
     refine wl_off (b := true) rfl rfl rfl rfl ?_
     refine wl_off (b := true) rfl rfl rfl rfl ?_
     refine wv (r := rB true) (o_pick_t (b := true) rfl rfl rfl) ?_
     refine wa rfl ?_
     refine wl_nil ?_
     exact wtc c12
    ·refine wo c12 ?_
     refine wm rfl ?_
     refine wo c12 ?_
     refine wv (o_len_zt (ys := v) (enc := eTApiCell) Tryz.underlying33 rfl) ?_
     refine wo c12 ?_
     refine wv (o_gt rfl rfl) ?_
     refine wpf rfl c12 rfl ?_
     refine wm rfl ?_
     refine bsplit (decide (200 < (v.length : Int))) (fun c13 => ?_) (fun c13 => ?_)
     ·refine wf c13 ?_
      refine wf c13 ?_
      refine wf c13 ?_
      refine wv (r := rB true) (o_pick_t (b := decide (200 < (v.length : Int))) rfl c13 rfl) ?_
      refine wm rfl ?_
      refine wl_off (b := true) rfl rfl rfl rfl ?_
      refine wl_off (b := true) rfl rfl rfl rfl ?_
      refine wl_off (b := true) rfl rfl rfl rfl ?_
      refine wv (r := rB true) (o_pick_t (b := true) rfl rfl rfl) ?_
      refine wa rfl ?_
      refine wl_nil ?_
      exact wtc (And.intro c12 c13)
     ·refine wo c13 ?_
      refine wv (o_fieldAddr Tryz.underlying133 rfl Tryz.sizeOf3 rfl rfl) ?_
      refine wo c13 ?_
      refine wv (o_load (i := 0) Tryz.isAgg3 rfl rfl rfl) ?_
      refine wo c13 ?_
      refine wv (o_gt rfl rfl) ?_
      refine wpf rfl c13 rfl ?_
      refine wm rfl ?_
      refine bsplit (decide (8 < r1.2.1.fDepth)) (fun c14 => ?_) (fun c14 => ?_)
      ·refine wf c14 ?_
       refine wf c14 ?_
       refine wf c14 ?_
       refine wv (r := rB true) (o_pick_t (b := decide (8 < r1.2.1.fDepth)) rfl c14 rfl) ?_
       refine wa rfl ?_
       refine wl_nil ?_
       exact wtc (And.intro c12 (And.intro c13 c14))
      ·refine wo c14 ?_
       refine wv (o_fieldAddr Tryz.underlying133 rfl Tryz.sizeOf3 rfl rfl) ?_
       refine wo c14 ?_
       refine wv (o_load (i := 0) Tryz.isAgg3 rfl rfl rfl) ?_
       refine wo c14 ?_
       refine wv (o_gt rfl rfl) ?_
       refine wpf rfl c14 rfl ?_
       refine wa rfl ?_
       refine wl_nil ?_
       exact wtc (And.intro c12 (And.intro c13 c14))
   refine wc_cond (b := (r1.2.1.fLong || ((decide (200 < (v.length : Int))) || ((decide (8 < r1.2.1.fDepth)) || (decide (4000 < r1.2.1.fBytes)))))) rfl (fun c15 => ?_) (fun c15 => ?_)
   ·have h16 := cnd_t c15 h11
    refine wc_sr ?_
    refine wv (r := rI .i64 3) (o_assign rfl) ?_
    refine wl_x ?_
    refine wc_ret ?_
    refine wk_in_ret ?_
    refine wk_then_ret ?_
    obtain rfl := some_e h16
    exact wk_ret (r_1 Tryz.results80 (rv_t rfl)) sN ⟨rfl, rfl⟩
   ·have h17 := cnd_f c15 h11
    refine wc_skip ?_
    refine wk_in_norm ?_
    refine wk_x ?_
    refine wc_sr ?_
    refine wv (r := rI .i64 0) (o_assign rfl) ?_
    refine wl_x ?_
    refine wc_ret ?_
    obtain rfl := some_e h17
    exact wk_ret (r_1 Tryz.results80 (rv_t rfl)) sN ⟨rfl, rfl⟩

end Go.Proofs.YtjfnokmpfekniaaGreatDoor.Q

/-
 What functions compute, with checks: plain definitions, printed by a small program of ours (gq.py). No program in sight.
-/
namespace Go.Proofs.YtjfnokmpfekniaaGreatDoor
open Go
set_option linter.unusedVariables false
end Go.Proofs.YtjfnokmpfekniaaGreatDoor

/-
  Walks, printed by a small program of ours (gq.py).
-/
namespace Go.Proofs.YtjfnokmpfekniaaGreatDoor.Q
open Go Go.RowKit
set_option linter.unusedVariables false
set_option linter.unusedSimpArgs false
set_option maxRecDepth 100000
set_option maxHeartbeats 4000000
end Go.Proofs.YtjfnokmpfekniaaGreatDoor.Q

/-
 What functions compute, with checks: plain definitions, printed by a small program of ours (gq.py). No program in sight.
-/
namespace Go.Proofs.YtjfnokmpfekniaaGreatDoor
open Go
set_option linter.unusedVariables false
def slHasPrefix (s : Str) (p : Str) : Option (Bool) :=
 chk (imp (decide ((p.length : Int) ≤ (s.length : Int))) (inC (p.length : Int) (s.length : Int))) <| some ((decide ((p.length : Int) ≤ (s.length : Int))) && (decide ((List.take (Int.toNat (p.length : Int)) s) = p)))

def hasPrefix (s : Str) (p : Str) : Option (Bool) :=
 obn (slHasPrefix s p) fun r1 => some r1

end Go.Proofs.YtjfnokmpfekniaaGreatDoor

/-
  Walks, printed by a small program of ours (gq.py).
-/
namespace Go.Proofs.YtjfnokmpfekniaaGreatDoor.Q
open Go Go.RowKit
set_option linter.unusedVariables false
set_option linter.unusedSimpArgs false
set_option maxRecDepth 100000
set_option maxHeartbeats 4000000
theorem slHasPrefix_w (s : Str) (p : Str) (r : Bool) (h : slHasPrefix s p = some r) : Fn Tryz.prog GE 64 [rS s, rS p] [] (fun R H => R = rB r ∧ H = []) := by
 refine enter (n := 18) Tryz.func64 rfl Tryz.ntmps64 rfl (fun w Z => ?_)
 refine wc_as (l' := [(0, rS s), (1, rS p)]) (H' := []) rfl rfl ?_
 unfold slHasPrefix at h
 refine wc_sr ?_
 refine wv (r := rB false) (o_assign rfl) ?_
 refine wl_x ?_
 obtain ⟨g1, h2⟩ := chk_e h
 refine wc_seq_mid [(4, rB ((decide ((p.length : Int) ≤ (s.length : Int))) && (decide ((List.take (Int.toNat (p.length : Int)) s) = p))))] [] ?_ ?_
 ·refine wc_region ?_
  refine wm rfl ?_
  refine wv (o_len_s Tryz.underlying9 rfl) ?_
  refine wm rfl ?_
  refine wv (o_len_s Tryz.underlying9 rfl) ?_
  refine wv (o_ge rfl rfl) ?_
  refine wm rfl ?_
  refine bsplit (decide ((p.length : Int) ≤ (s.length : Int))) (fun c3 => ?_) (fun c3 => ?_)
  ·refine wo c3 ?_
   refine wm rfl ?_
   refine wo c3 ?_
   refine wm rfl ?_
   refine wo c3 ?_
   refine wv (o_len_s Tryz.underlying9 rfl) ?_
   refine wo c3 ?_
   refine wv (o_slice_hi Tryz.underlying9 rfl rfl (imp_t g1 c3)) ?_
   refine wo c3 ?_
   refine wm rfl ?_
   refine wo c3 ?_
   refine wv (o_seq rfl rfl) ?_
   refine wpt rfl c3 rfl ?_
   refine wa rfl ?_
   refine wl_nil ?_
   exact wtc c3
  ·refine wf c3 ?_
   refine wf c3 ?_
   refine wf c3 ?_
   refine wf c3 ?_
   refine wf c3 ?_
   refine wf c3 ?_
   refine wv (r := rB false) (o_pick_f (b := decide ((p.length : Int) ≤ (s.length : Int))) rfl c3 rfl) ?_
   refine wa rfl ?_
   refine wl_nil ?_
   exact wtc c3
 refine wc_ret ?_
 obtain rfl := some_e h2
 exact wk_ret (r_1 Tryz.results64 (rv_t rfl)) sN ⟨rfl, rfl⟩

theorem hasPrefix_w (s : Str) (p : Str) (r : Bool) (h : hasPrefix s p = some r) : Fn Tryz.prog GE 44 [rS s, rS p] [] (fun R H => R = rB r ∧ H = []) := by
 refine enter (n := 8) Tryz.func44 rfl Tryz.ntmps44 rfl (fun w Z => ?_)
 refine wc_as (l' := [(0, rS s), (1, rS p)]) (H' := []) rfl rfl ?_
 unfold hasPrefix at h
 refine wc_sr ?_
 refine wv (r := rB false) (o_assign rfl) ?_
 refine wl_y ?_
 refine wm rfl ?_
 refine wm rfl ?_
 obtain ⟨r1, e3, h2⟩ := obn_e h
 refine wc0 Tryz.call64 (slHasPrefix_w s p r1 e3) rfl ?_
 refine wa rfl ?_
 refine wl_x ?_
 refine wc_ret ?_
 obtain rfl := some_e h2
 exact wk_ret (r_1 Tryz.results44 (rv_t rfl)) sN ⟨rfl, rfl⟩

end Go.Proofs.YtjfnokmpfekniaaGreatDoor.Q

/-
 What functions compute, with checks: plain definitions, printed by a small program of ours (gq.py). No program in sight.
-/
namespace Go.Proofs.YtjfnokmpfekniaaGreatDoor
open Go
set_option linter.unusedVariables false

end Go.Proofs.YtjfnokmpfekniaaGreatDoor

/-
  Walks, printed by a small program of ours (gq.py).
-/
namespace Go.Proofs.YtjfnokmpfekniaaGreatDoor.Q
open Go Go.RowKit
set_option linter.unusedVariables false
set_option linter.unusedSimpArgs false
set_option maxRecDepth 100000
set_option maxHeartbeats 4000000

end Go.Proofs.YtjfnokmpfekniaaGreatDoor.Q

/-
 Maps from strings as lists of pairs, in the order of the keys; rounds over a map in any order. Plain definitions and laws.
-/
namespace Go.Proofs.YtjfnokmpfekniaaGreatDoor
open Go
set_option linter.unusedVariables false
set_option linter.unusedSimpArgs false
section
variable {T S : Type}
def mget : List (Str × T) → Str → Option T
 | [], _ => none
 | p :: r, k => bif decide (p.1 = k) then some p.2 else mget r k
def mval (xs : List (Str × T)) (k : Str) (z : T) : T := (mget xs k).getD z
def mhas (xs : List (Str × T)) (k : Str) : Bool := (mget xs k).isSome
def mins (k : Str) (v : T) : List (Str × T) → List (Str × T)
 | [] => [(k, v)]
 | p :: r => bif sLess k p.1 then (k, v) :: p :: r else p :: mins k v r
def mput (xs : List (Str × T)) (k : Str) (v : T) : List (Str × T) := xs.map fun p => bif decide (p.1 = k) then (k, v) else p
def mset (xs : List (Str × T)) (k : Str) (v : T) : List (Str × T) := bif mhas xs k then mput xs k v else mins k v xs
def mdel (xs : List (Str × T)) (k : Str) : List (Str × T) := xs.filter fun p => !decide (p.1 = k)
def menc (f : T → S) (xs : List (Str × T)) : List (Str × S) := xs.map fun p => (p.1, f p.2)
theorem mget_enc (f : T → S) : ∀ (xs : List (Str × T)) (k : Str), mget (menc f xs) k = (mget xs k).map f
 | [], k => rfl
 | p :: r, k => by
  show (bif decide (p.1 = k) then some (f p.2) else mget (menc f r) k) = _
  rw [mget, mget_enc f r k]
  cases decide (p.1 = k) <;> rfl
theorem mhas_enc (f : T → S) (xs : List (Str × T)) (k : Str) : mhas (menc f xs) k = mhas xs k := by
 unfold mhas; rw [mget_enc]; cases mget xs k <;> rfl
theorem mins_enc (f : T → S) (k : Str) (v : T) : ∀ xs : List (Str × T), menc f (mins k v xs) = mins k (f v) (menc f xs)
 | [] => rfl
 | p :: r => by
  show menc f (bif sLess k p.1 then (k, v) :: p :: r else p :: mins k v r) = (bif sLess k p.1 then (k, f v) :: (p.1, f p.2) :: menc f r else (p.1, f p.2) :: mins k (f v) (menc f r))
  rw [← mins_enc f k v r]
  cases sLess k p.1 <;> rfl
theorem mset_enc (f : T → S) (xs : List (Str × T)) (k : Str) (v : T) : menc f (mset xs k v) = mset (menc f xs) k (f v) := by
 unfold mset
 rw [mhas_enc]
 cases mhas xs k with
 | false => exact mins_enc f k v xs
 | true =>
  show menc f (mput xs k v) = mput (menc f xs) k (f v)
  unfold menc mput
  rw [List.map_map, List.map_map]
  refine List.map_congr_left fun p _ => ?_
  show _ = (bif decide (p.1 = k) then (k, f v) else (p.1, f p.2))
  simp only [Function.comp]
  cases decide (p.1 = k) <;> rfl
theorem mdel_enc (f : T → S) (xs : List (Str × T)) (k : Str) : menc f (mdel xs k) = mdel (menc f xs) k := by
 unfold menc mdel
 rw [List.filter_map]
 rfl
theorem menc_length (f : T → S) (xs : List (Str × T)) : (menc f xs).length = xs.length := by simp [menc]
theorem mins_perm (k : Str) (v : T) : ∀ xs : List (Str × T), (mins k v xs).Perm ((k, v) :: xs)
 | [] => List.Perm.refl _
 | p :: r => by
  rw [mins]
  cases sLess k p.1 with
  | true => exact List.Perm.refl _
  | false => exact ((mins_perm k v r).cons p).trans (List.Perm.swap _ _ _)
def inserts (x : T) : List T → List (List T)
 | [] => [[x]]
 | y :: r => (x :: y :: r) :: (inserts x r).map (y :: ·)
def perms : List T → List (List T)
 | [] => [[]]
 | x :: r => (perms r).flatMap (inserts x)
theorem mem_inserts (x : T) : ∀ (a b : List T), a ++ x :: b ∈ inserts x (a ++ b)
 | [], [] => by simp [inserts]
 | [], y :: b => by simp [inserts]
 | y :: a, b => by
  simp only [List.cons_append, inserts, List.mem_cons, List.mem_map]
  exact .inr ⟨_, mem_inserts x a b, rfl⟩
theorem mem_perms : ∀ (xs ys : List T), ys.Perm xs → ys ∈ perms xs
 | [], ys, h => by rw [h.eq_nil]; simp [perms]
 | x :: r, ys, h => by
  have hx : x ∈ ys := h.symm.subset (List.mem_cons_self ..)
  obtain ⟨a, b, rfl⟩ := List.append_of_mem hx
  have h2 : (a ++ b).Perm r := (List.perm_middle.symm.trans h).cons_inv
  simp only [perms, List.mem_flatMap]
  exact ⟨a ++ b, mem_perms r _ h2, mem_inserts x a b⟩
def mobn {R : Type} [DecidableEq R] (xs : List T) (K : List T → Option R) : Option R := match K xs with
 | none => none
 | some r => bif (perms xs).all (fun p => decide (K p = some r)) then some r else none
theorem mobn_e {R : Type} [DecidableEq R] {xs : List T} {K : List T → Option R} {r : R} (h : mobn xs K = some r) : ∀ p : List T, p.Perm xs → K p = some r := fun p hp => by
 unfold mobn at h
 cases hk : K xs with
 | none => rw [hk] at h; cases h
 | some q =>
  rw [hk] at h
  simp only at h
  cases ha : (perms xs).all (fun p => decide (K p = some q)) with
  | false => rw [ha] at h; cases h
  | true =>
   rw [ha] at h; cases h
   exact of_decide_eq_true (List.all_eq_true.1 ha p (mem_perms xs p hp))
theorem mem_inserts_perm (x : T) : ∀ (xs ys : List T), ys ∈ inserts x xs → ys.Perm (x :: xs)
 | [], ys, h => by simp [inserts] at h; rw [h]
 | y :: r, ys, h => by
  simp only [inserts, List.mem_cons, List.mem_map] at h
  rcases h with rfl | ⟨z, hz, rfl⟩
  ·exact List.Perm.refl _
  ·exact ((mem_inserts_perm x r z hz).cons y).trans (List.Perm.swap _ _ _)
theorem perms_perm : ∀ (xs ys : List T), ys ∈ perms xs → ys.Perm xs
 | [], ys, h => by simp [perms] at h; rw [h]
 | x :: r, ys, h => by
  simp only [perms, List.mem_flatMap] at h
  obtain ⟨z, hz, hy⟩ := h
  exact (mem_inserts_perm x z ys hy).trans ((perms_perm r z hz).cons x)
theorem mobn_s {R : Type} [DecidableEq R] {xs : List T} {K : List T → Option R} {r : R} (h : ∀ p : List T, p.Perm xs → K p = some r) : mobn xs K = some r := by
 unfold mobn
 rw [h xs (List.Perm.refl _)]
 have : (perms xs).all (fun p => decide (K p = some r)) = true := List.all_eq_true.2 fun p hp => decide_eq_true (h p (perms_perm xs p hp))
 simp only [this]; rfl
def lfe {St O : Type} (body : T → St → Option (Stp St (Out O St))) : List T → St → Option (Out O St)
 | [], s => some (.go s)
 | x :: r, s => match body x s with
  | none => none
  | some (.next s') => lfe body r s'
  | some (.out o) => some o
def LStp {St R : Type} (body : T → St → Option (Stp St (Out R St))) (ys : List T) (K : St → Option R) (r : R) : Stp St (Out R St) → Prop
 | .next s' => ∀ q : List T, q.Perm ys → obn (lfe body q s') (oute K) = some r
 | .out o => oute K o = some r
theorem lfe_e {St R : Type} {body : T → St → Option (Stp St (Out R St))} {ys ys' : List T} {p : T} {s : St} {K : St → Option R} {r : R} (h : ∀ q : List T, q.Perm ys → obn (lfe body q s) (oute K) = some r) (hp : ys.Perm (p :: ys')) : ∃ t, body p s = some t ∧ LStp body ys' K r t := by
 have h1 : ∀ q : List T, q.Perm ys' → obn (lfe body (p :: q) s) (oute K) = some r := fun q hq => h _ ((hq.cons p).trans hp.symm)
 cases hb : body p s with
 | none =>
  have := h1 ys' (List.Perm.refl _)
  rw [lfe, hb] at this; cases this
 | some t =>
  refine ⟨t, rfl, ?_⟩
  cases t with
  | next s' =>
   intro q hq
   have := h1 q hq
   rw [lfe, hb] at this; exact this
  | out o =>
   have := h1 ys' (List.Perm.refl _)
   rw [lfe, hb] at this; exact this
theorem lfe_nil {St R : Type} {body : T → St → Option (Stp St (Out R St))} {ys : List T} {s : St} {K : St → Option R} {r : R} (h : ∀ q : List T, q.Perm ys → obn (lfe body q s) (oute K) = some r) (hy : ys = []) : K s = some r := by
 subst hy; exact h [] (List.Perm.refl _)
theorem lstp_next {St R : Type} {body : T → St → Option (Stp St (Out R St))} {ys : List T} {s' : St} {K : St → Option R} {r : R} {t : Stp St (Out R St)} (h : some (Stp.next s') = some t) (ht : LStp body ys K r t) : ∀ q : List T, q.Perm ys → obn (lfe body q s') (oute K) = some r := by cases h; exact ht
theorem perm_lt {ys ys' : List T} {p : T} (h : ys.Perm (p :: ys')) : ys'.length < ys.length := by rw [h.length_eq]; exact Nat.lt_succ_self _
end
end Go.Proofs.YtjfnokmpfekniaaGreatDoor

/-
 More rules: tests of slices for nil. Plain theorems over any program; no condition.
-/
namespace Go.Proofs.YtjfnokmpfekniaaGreatDoor.Q
open Go Go.RowKit
set_option linter.unusedVariables false
set_option linter.unusedSimpArgs false
def rBx (p : Bool → Prop) : Rp := ⟨fun _ v => ∃ b, v = .bool b ∧ p b, fun _ h => h, true, fun _ Z v ⟨b, e, _⟩ => by rw [e]; rfl⟩
section
variable {P : Program} {n : Nat} {c : Cx} {ops : Array Oper} {Q : Exit → Act → World → Prop} {rest : List Oper} {l : Fr} {H : List Ent} {d : Option Nat} {ty rty t e : TypeId} {pos : String} {af : Array Edge} {g : Option (Nat × Bool)} {r : Rp} {x : Operand} {cx cy : Code} {sz : Nat} {xs : List (List Rp)}
theorem wc_condx {o : Operand} {p : Bool → Prop} (ho : ev l o = some (rBx p)) (h1 : p true → WC P n c cx Q l H) (h2 : p false → WC P n c cy Q l H) : WC P n c (.cond o cx cy) Q l H := fun a w Z ha hw => by
 obtain ⟨b, e, hp⟩ := ha.ev ho
 exact wp_cond_split e (fun e => h1 (e ▸ hp) a w Z ha hw) (fun e => h2 (e ▸ hp) a w Z ha hw)
theorem o_slnil_z (ht : P.underlying t = some (.slice e)) (h : ev l x = some (rSl sz xs)) : ORun P n c l H { dst := d, op := .binOp .eql t x (.const (.slice none 0 0)) rty, type := ty, pos := pos, after := af, guard := g } (rBx (fun b => b = true → xs = [])) := fun a w Z ha hw => by
 obtain ⟨A, cap, e1, h1, h2, h3, h4⟩ := ha.ev h
 refine ⟨.bool A.isNone, ⟨_, rfl, fun hb => ?_⟩, ?_⟩
 ·cases A with
  | some a => cases hb
  | none =>
   have := h3 rfl
   exact List.length_eq_zero_iff.1 (by omega)
 ·have := run_equal_slice_nil (P := P) w t e A xs.length cap ht
  have e2 : a.eval (.const (.slice none 0 0)) = .slice none 0 0 := rfl
  simp [execOp, e1, e2, binOp, this, eqGuard]
end
end Go.Proofs.YtjfnokmpfekniaaGreatDoor.Q

/-
 Frozen slices of which it is known that they are nil if they are empty. Plain theorems.
-/
namespace Go.Proofs.YtjfnokmpfekniaaGreatDoor.Q
open Go Go.RowKit
set_option linter.unusedVariables false
section
variable {P : Program} {n : Nat} {c : Cx} {l : Fr} {H : List Ent} {d : Option Nat} {ty rty t e : TypeId} {pos : String} {af : Array Edge} {g : Option (Nat × Bool)} {x : Operand} {sz : Nat}
end
end Go.Proofs.YtjfnokmpfekniaaGreatDoor.Q

/-
 Regions that draw, with operations in a row behind them, and with allocations in any order. Plain theorems over any program; no condition.
-/
namespace Go.Proofs.YtjfnokmpfekniaaGreatDoor.Q
open Go Go.RowKit
set_option linter.unusedVariables false
set_option linter.unusedSimpArgs false
def chainB (ops : List Oper) (N : Nat) : Bool :=
 let cl := cloM ops []
 (List.range ops.length).all (fun i => (bnds (ops.getD i default)).all (· < i)) &&
 (List.range ops.length).all (fun i => i < N || (List.range i).all (fun j => (cl.getD i 0).testBit j))
section
variable {P : Program} {Q : Exit → Act → World → Prop}
theorem count_first {listed : Array Bool} {len m : Nat} (hs : listed.size = len) (hm : m ≤ len) (h : ∀ j, j < len → (listed.getD j true = true ↔ j < m)) : listed.toList.count false = len - m := by
 have : listed.toList = List.replicate m true ++ List.replicate (len - m) false := by
  apply List.ext_getElem
  ·simp [hs]; omega
  ·intro j h1 h2
   have hj : j < len := by simpa [hs] using h1
   have := h j hj
   rw [Array.getD_eq_getD_getElem?, Array.getElem?_eq_getElem (by omega)] at this
   simp only [Option.getD_some] at this
   rw [Array.getElem_toList, List.getElem_append]
   split
   ·rename_i h3
    simp at h3
    simp [this.2 h3]
   ·rename_i h3
    simp at h3
    simp only [List.getElem_replicate]
    cases hb : listed[j] with
    | false => rfl
    | true => have := this.1 hb; omega
 rw [this]; simp [List.count_append, List.count_replicate]
theorem getD_tf {listed : Array Bool} {j : Nat} (h : j < listed.size) (d d' : Bool) : listed.getD j d = listed.getD j d' := by
 simp [Array.getD_eq_getD_getElem?, Array.getElem?_eq_getElem h]
theorem anc_listed {ops : List Oper} {listed : Array Bool} {i : Nat} {o : Oper} (ho : ops[i]? = some o) (hb : ∀ e ∈ bnds o, listed.getD e true = true)
  (hcl : ∀ j o, ops[j]? = some o → listed.getD j true = true → ∀ e ∈ bnds o, listed.getD e true = true) (j : Nat) (h : ((cloM ops []).getD i 0).testBit j = true) : j = i ∨ listed.getD j true = true :=
 cloM_good ops (fun k => k = i ∨ listed.getD k true = true) ops [] (fun t o' ht e he hF => by
  rcases hF with hF | hF
  ·simp at hF; subst hF; rw [ho] at ht; simp at ht; subst ht; exact .inr (hb e he)
  ·exact .inr (hcl t o' ht (by simpa using hF) e he)) (fun j i hb => by simp at hb) i j h (.inl rfl)
theorem ready_bnds {ops : List Oper} {listed : Array Bool} {i : Nat} (hsz : listed.size = ops.length) (hlt : ∀ i, i < ops.length → ∀ e ∈ bnds (ops.getD i default), e < i) (h : i ∈ Region.ready .any ops.toArray listed) :
  listed.getD i true = false ∧ i < ops.length ∧ ∃ o, ops[i]? = some o ∧ ∀ e ∈ bnds o, listed.getD e true = true := by
 obtain ⟨h1, o, ho, h2⟩ := mem_ready.1 h
 have ho' : ops[i]? = some o := by simpa using ho
 have hil := (List.getElem?_eq_some_iff.1 ho').1
 refine ⟨h1, hil, o, ho', fun e he => ?_⟩
 have hei := hlt i hil e (by rw [List.getD_eq_getElem?_getD, ho']; exact he)
 simp only [bnds, List.mem_map, List.mem_filter] at he
 obtain ⟨x, ⟨hx1, hx2⟩, rfl⟩ := he
 have h3 := h2 x (by simpa using hx1) hx2
 rw [getD_tf (by omega) true false]; exact h3
theorem not_ready_all {ops : List Oper} {listed : Array Bool} (hsz : listed.size = ops.length) (hlt : ∀ i, i < ops.length → ∀ e ∈ bnds (ops.getD i default), e < i) (h : Region.ready .any ops.toArray listed = []) :
  ∀ j, j < ops.length → listed.getD j true = true := by
 intro j
 induction j using Nat.strongRecOn with
 | ind j ih =>
  intro hj
  cases hb : listed.getD j true with
  | true => rfl
  | false =>
   have : j ∈ Region.ready .any ops.toArray listed := mem_ready.2 ⟨hb, ops[j], by simp [hj], fun e he hbn => by
    have hel : e.on < j := hlt j hj e.on (by
     rw [List.getD_eq_getElem?_getD, List.getElem?_eq_getElem hj]
     simp only [bnds, Option.getD_some, List.mem_map, List.mem_filter]
     exact ⟨e, ⟨by simpa using he, hbn⟩, rfl⟩)
    rw [getD_tf (by omega) false true]
    exact ih e.on hel (by omega)⟩
   rw [h] at this; cases this
theorem set_iff {listed : Array Bool} {i j : Nat} (hi : i < listed.size) : (listed.setIfInBounds i true).getD j true = true ↔ (j = i ∨ listed.getD j true = true) := by
 by_cases hj : i = j
 ·subst hj; simp [hi]
 ·rw [getD_set_ne true hj]
  exact ⟨.inr, fun h => h.elim (fun h => absurd h.symm hj) id⟩
theorem set_count {listed : Array Bool} {i fuel : Nat} (hi : i < listed.size) (hun : listed.getD i true = false) (hc : listed.toList.count false = fuel + 1) : (listed.setIfInBounds i true).toList.count false = fuel := by
 have hfi : listed.toList[i]? = some false := by
  rw [Array.getD_eq_getD_getElem?, Array.getElem?_eq_getElem hi] at hun
  simp at hun; simp [hi, hun]
 rw [Array.toList_setIfInBounds]
 have h1 := List.count_set (a := true) (b := false) (l := listed.toList) (i := i) (by simpa using hi)
 have h2 : listed.toList[i]'(by simpa using hi) = false := by
  have := List.getElem?_eq_some_iff.1 hfi; exact this.2
 rw [h1, h2, hc]; rfl
theorem wpAny_chain {ops : List Oper} {N : Nat} (hlt : ∀ i, i < ops.length → ∀ e ∈ bnds (ops.getD i default), e < i)
  (hch : ∀ i, N ≤ i → i < ops.length → ∀ j, j < i → ((cloM ops []).getD i 0).testBit j = true) : ∀ (k m : Nat) (listed : Array Bool) (a : Act) (w : World), m + k = ops.length → N ≤ m → listed.size = ops.length →
   (∀ j, j < ops.length → (listed.getD j true = true ↔ j < m)) → (∀ j o, ops[j]? = some o → listed.getD j true = true → ∀ e ∈ bnds o, listed.getD e true = true) → wpList P ops.toArray Q (ops.drop m) a w → wpAny P .any ops.toArray Q k listed a w
 | 0, m, listed, a, w, hk, hN, hsz, hl, hcl, h => by
  refine ⟨?_, ?_⟩
  ·cases hr : Region.ready .any ops.toArray listed with
   | nil => rfl
   | cons i r =>
    obtain ⟨h1, h2, _⟩ := ready_bnds hsz hlt (i := i) (by rw [hr]; simp)
    rw [(hl i h2).2 (by omega)] at h1; cases h1
  ·rw [List.drop_of_length_le (by omega)] at h
   exact h
 | k + 1, m, listed, a, w, hk, hN, hsz, hl, hcl, h => by
  refine ⟨fun hr => ?_, fun i hi => ?_⟩
  ·have := (hl m (by omega)).1 (not_ready_all hsz hlt hr m (by omega)); omega
  ·obtain ⟨h1, h2, o, ho, hb⟩ := ready_bnds hsz hlt hi
   have him : i = m := by
    have hmi : ¬ i < m := fun h' => by rw [(hl i h2).2 h'] at h1; cases h1
    by_cases e : i = m
    ·exact e
    ·rcases anc_listed ho hb hcl m (hch i (by omega) h2 m (by omega)) with h3 | h3
     ·exact h3.symm
     ·have := (hl m (by omega)).1 h3; omega
   subst him
   have hd : ops.drop i = o :: ops.drop (i + 1) := by
    rw [List.drop_eq_getElem_cons h2]
    congr 1
    exact (List.getElem?_eq_some_iff.1 ho).2
   rw [hd] at h
   have ih : ∀ a' w', wpList P ops.toArray Q (ops.drop (i + 1)) a' w' → wpAny P .any ops.toArray Q k (listed.setIfInBounds i true) a' w' := fun a' w' h' => by
    refine wpAny_chain hlt hch k (i + 1) _ a' w' (by omega) (by omega) (by simpa using hsz) (fun j hj => ?_) (fun j o' hj hlj e he => ?_) h'
    ·rw [set_iff (by omega), hl j hj]; omega
    ·rw [set_iff (by omega)] at hlj ⊢
     rcases hlj with rfl | hlj
     ·rw [ho] at hj; simp at hj; subst hj; exact .inr (hb e he)
     ·exact .inr (hcl j o' hj hlj e he)
   unfold wpOp
   have hoA : ops.toArray[i]? = some o := by simpa using ho
   simp only [hoA]
   simp only [wpList] at h
   split
   ·rename_i hw'
    rw [if_pos hw'] at h
    exact h.imp (fun h => Oper.wp_mono ih h) (fun h => h)
   ·rename_i hw'
    rw [if_neg hw'] at h
    exact ih _ _ h
theorem wp_inv {id : Nat} {ops : List Oper} {N : Nat} (hm : P.follows .mixedOrders = true) (hB : chainB ops N = true) (hN : N ≤ ops.length) (I : (Nat → Bool) → Act → World → Prop)
  (hext : ∀ S S' a w, (∀ j, j < N → S j = S' j) → I S a w → I S' a w) {a : Act} {w : World} (h0 : I (fun _ => false) a { w with drawn := w.drawn + 1 })
  (step : ∀ S i o a w, i < N → S i = false → ops[i]? = some o → (∀ e ∈ bnds o, e < i ∧ S e = true) → I S a w → ∀ K : Act → World → Prop, (∀ a' w', I (fun j => j == i || S j) a' w' → K a' w') →
   (Region.wanted o (yielded ops.toArray a.tmps) = true → o.wp P a w K Q) ∧ (Region.wanted o (yielded ops.toArray a.tmps) = false → K (a.put o.dst undef) w))
  (fin : ∀ a w, I (fun _ => true) a w → wpList P ops.toArray Q (ops.drop N) a w) : (Code.region id ops.toArray true).wp P Q a w := by
 simp only [chainB, Bool.and_eq_true, List.all_eq_true, List.mem_range, decide_eq_true_eq, Bool.or_eq_true] at hB
 obtain ⟨hlt, hch0⟩ := hB
 have hch : ∀ i, N ≤ i → i < ops.length → ∀ j, j < i → ((cloM ops []).getD i 0).testBit j = true := fun i h1 h2 j hj => by
  rcases hch0 i h2 with h3 | h3
  ·omega
  ·exact h3 j hj
 refine wp_region_any hm ?_
 have main : ∀ (fuel : Nat) (listed : Array Bool) (a : Act) (w : World), listed.size = ops.length → listed.toList.count false = fuel → I (fun j => listed.getD j true) a w →
   (∀ j o, ops[j]? = some o → listed.getD j true = true → ∀ e ∈ bnds o, listed.getD e true = true) → (∀ j, N ≤ j → j < ops.length → listed.getD j true = false) → wpAny P .any ops.toArray Q fuel listed a w := by
  intro fuel
  have allin : ∀ (fuel : Nat) (listed : Array Bool) (a : Act) (w : World), listed.size = ops.length → listed.toList.count false = fuel → I (fun j => listed.getD j true) a w →
   (∀ j o, ops[j]? = some o → listed.getD j true = true → ∀ e ∈ bnds o, listed.getD e true = true) → (∀ j, N ≤ j → j < ops.length → listed.getD j true = false) → (∀ j, j < N → listed.getD j true = true) → wpAny P .any ops.toArray Q fuel listed a w := by
   intro fuel listed a w hsz hc hI hcl hlast hall
   have hl : ∀ j, j < ops.length → (listed.getD j true = true ↔ j < N) := fun j hj => by
    constructor
    ·intro h
     by_cases hjN : j < N
     ·exact hjN
     ·rw [hlast j (by omega) hj] at h; cases h
    ·exact hall j
   have := count_first hsz hN hl
   refine wpAny_chain hlt hch fuel N listed a w (by omega) (Nat.le_refl _) hsz hl hcl (fin a w (hext _ _ a w (fun j hj => hall j hj) hI))
  induction fuel with
  | zero =>
   intro listed a w hsz hc hI hcl hlast
   refine allin 0 listed a w hsz hc hI hcl hlast (fun j hj => ?_)
   cases hb : listed.getD j true with
   | true => rfl
   | false =>
    have : false ∈ listed.toList := by
     rw [Array.getD_eq_getD_getElem?, Array.getElem?_eq_getElem (by omega)] at hb
     simp at hb; rw [← hb]; simp
    have := List.count_pos_iff.2 this
    omega
  | succ fuel ih =>
   intro listed a w hsz hc hI hcl hlast
   by_cases hall : ∀ j, j < N → listed.getD j true = true
   ·exact allin (fuel + 1) listed a w hsz hc hI hcl hlast hall
   ·refine ⟨fun hr => absurd (fun j hj => not_ready_all hsz hlt hr j (by omega)) hall, fun i hi => ?_⟩
    obtain ⟨h1, h2, o, ho, hb⟩ := ready_bnds hsz hlt hi
    have hiN : i < N := by
     by_cases h : i < N
     ·exact h
     ·refine absurd (fun j hj => ?_) hall
      rcases anc_listed ho hb hcl j (hch i (by omega) h2 j (by omega)) with h3 | h3
      ·omega
      ·exact h3
    have K' : ∀ a' w', I (fun j => j == i || listed.getD j true) a' w' → wpAny P .any ops.toArray Q fuel (listed.setIfInBounds i true) a' w' := fun a' w' hI' => by
     refine ih _ a' w' (by simpa using hsz) (set_count (by omega) h1 hc) (hext _ _ a' w' (fun j hj => ?_) hI') (fun j o' hj hlj e he => ?_) (fun j h3 h4 => ?_)
     ·have := set_iff (listed := listed) (i := i) (j := j) (by omega)
      cases hq : (listed.setIfInBounds i true).getD j true with
      | true =>
       rw [hq] at this
       rcases this.1 rfl with h | h
       ·simp [h]
       ·simp [h]
      | false =>
       rw [hq] at this
       have h5 : ¬ (j = i ∨ listed.getD j true = true) := fun h => by have := this.2 h; cases this
       cases hz : listed.getD j true with
       | true => exact absurd (.inr hz) h5
       | false =>
        have : j ≠ i := fun h => h5 (.inl h)
        simp [this]
     ·rw [set_iff (by omega)] at hlj ⊢
      rcases hlj with rfl | hlj
      ·rw [ho] at hj; simp at hj; subst hj; exact .inr (hb e he)
      ·exact .inr (hcl j o' hj hlj e he)
     ·rw [getD_set_ne true (by omega)]; exact hlast j h3 h4
    obtain ⟨k1, k2⟩ := step _ i o a w hiN h1 ho (fun e he => ⟨hlt i h2 e (by rw [List.getD_eq_getElem?_getD, ho]; exact he), hb e he⟩) hI _ K'
    unfold wpOp
    have hoA : ops.toArray[i]? = some o := by simpa using ho
    simp only [hoA]
    split
    ·rename_i hw'; exact .inl (k1 hw')
    ·rename_i hw'; exact k2 (by simpa using hw')
 have e0 : ∀ j, j < ops.length → (Array.replicate ops.length false).getD j true = false := fun j hj => by simp [hj]
 have hsz0 : ops.toArray.size = ops.length := by simp
 rw [hsz0]
 refine main ops.length (Array.replicate ops.length false) a _ (by simp) (by simp) (hext _ _ _ _ (fun j hj => (e0 j (by omega)).symm) h0) (fun j o hj hl => ?_) (fun j _ h2 => e0 j h2)
 rw [e0 j (List.getElem?_eq_some_iff.1 hj).1] at hl; cases hl
end
/-! ### Allocations in any order -/
structure Sa where
 deps : List Nat
 r : Rp
 al : Option (List Rp × TypeId) := none
 late : Option (Nat × List Rp) := none
 sto : Option Nat := none
def sas (sp : List Sa) (i : Nat) : Sa := sp.getD i { deps := [], r := rv undef }
def spq (sp : List Sa) : List Sp := sp.map fun s => ⟨s.deps, s.r, 0⟩
def raOf (β : Nat → Nat) (s : Sa) (i : Nat) : Rp := match s.al with
 | none => s.r
 | some _ => rv (.pointer (some ⟨β i, 0, none⟩))
def cont (S : Nat → Bool) (late : Option (Nat × List Rp)) (cs : List Rp) : List Rp := match late with
 | none => cs
 | some q => if S q.1 then q.2 else cs
def entL (S : Nat → Bool) (β : Nat → Nat) : List Sa → Nat → List Ent
 | [], _ => []
 | s :: r, t => match s.al with
  | some p => if S t then .blk (β t) (cont S s.late p.1) p.2 :: entL S β r (t + 1) else entL S β r (t + 1)
  | none => entL S β r (t + 1)
def entA (β : Nat → Nat) : List Sa → Nat → List Ent
 | [], _ => []
 | s :: r, t => match s.al with
  | some p => .blk (β t) (match s.late with | none => p.1 | some q => q.2) p.2 :: entA β r (t + 1)
  | none => entA β r (t + 1)
def zipA (β : Nat → Nat) : List Oper → List Sa → Nat → Fr → Fr
 | o :: os, s :: sp, i, l => match o.dst with
  | some d => (d, raOf β s i) :: zipA β os sp (i + 1) l
  | none => zipA β os sp (i + 1) l
 | _, _, _, l => l
theorem cont_congr {S S' : Nat → Bool} {late : Option (Nat × List Rp)} {cs : List Rp} (h : ∀ q, late = some q → S q.1 = S' q.1) : cont S late cs = cont S' late cs := by
 unfold cont
 cases late with
 | none => rfl
 | some q => simp only []; rw [h q rfl]
theorem entL_cons (S : Nat → Bool) (β : Nat → Nat) (s : Sa) (r : List Sa) (t : Nat) : entL S β (s :: r) t = match s.al with
  | some p => if S t then .blk (β t) (cont S s.late p.1) p.2 :: entL S β r (t + 1) else entL S β r (t + 1)
  | none => entL S β r (t + 1) := rfl
theorem entL_congr {S S' : Nat → Bool} {β β' : Nat → Nat} : ∀ (r : List Sa) (t0 : Nat), (∀ (t : Nat) (s : Sa), r[t]? = some s → s.al ≠ none → S (t0 + t) = S' (t0 + t) ∧ (S (t0 + t) = true → β (t0 + t) = β' (t0 + t) ∧ ∀ q, s.late = some q → S q.1 = S' q.1)) → entL S β r t0 = entL S' β' r t0
 | [], _, _ => rfl
 | s :: r, t0, h => by
  have ih := entL_congr r (t0 + 1) (fun t s hs hn => by
   have := h (t + 1) s (by simpa using hs) hn
   rw [show t0 + 1 + t = t0 + (t + 1) from by omega]; exact this)
  unfold entL
  rw [ih]
  cases ha : s.al with
  | none => rfl
  | some p =>
   obtain ⟨h1, h2⟩ := h 0 s rfl (by rw [ha]; exact nofun)
   simp only [Nat.add_zero] at h1 h2
   simp only []
   rw [← h1]
   split
   ·rename_i hS; rw [(h2 hS).1, cont_congr (h2 hS).2]
   ·rfl
theorem entL_all (β : Nat → Nat) : ∀ (r : List Sa) (t0 : Nat), entL (fun _ => true) β r t0 = entA β r t0
 | [], _ => rfl
 | s :: r, t0 => by
  unfold entL entA
  rw [entL_all β r (t0 + 1)]
  cases s.al with
  | none => rfl
  | some p => cases hl : s.late <;> simp [cont, hl]
theorem entL_none (β : Nat → Nat) : ∀ (r : List Sa) (t0 : Nat), entL (fun _ => false) β r t0 = []
 | [], _ => rfl
 | s :: r, t0 => by
  unfold entL
  rw [entL_none β r (t0 + 1)]
  cases s.al <;> simp
theorem entL_put {S : Nat → Bool} {β : Nat → Nat} {i b : Nat} {p : List Rp × TypeId} : ∀ (r : List Sa) (t0 k : Nat) (s : Sa), i = t0 + k → r[k]? = some s → s.al = some p → S i = false → (∀ (t : Nat) (s : Sa) (q : Nat × List Rp), r[t]? = some s → s.al ≠ none → s.late = some q → q.1 ≠ i) → (∀ q, s.late = some q → S q.1 = false ∧ q.1 ≠ i) →
  (entL (fun j => j == i || S j) (fun j => if j = i then b else β j) r t0).Perm (.blk b p.1 p.2 :: entL S β r t0)
 | [], _, _, _, _, h, _, _, _, _ => by simp at h
 | s' :: r, t0, 0, s, hi, h, ha, hS, hne, hl => by
  simp at h hi; subst h; subst hi
  have e := entL_congr (S := fun j => j == i || S j) (S' := S) (β := fun j => if j = i then b else β j) (β' := β) r (i + 1) (fun t s hs hn => by
   have : i + 1 + t ≠ i := by omega
   refine ⟨by simp [this], fun _ => ⟨by simp [this], fun q hq => ?_⟩⟩
   have := hne (t + 1) s q (by simpa using hs) hn hq
   simp [this])
  have ec : cont (fun j => j == i || S j) s'.late p.1 = p.1 := by
   unfold cont
   cases hq : s'.late with
   | none => rfl
   | some q =>
    obtain ⟨h1, h2⟩ := hl q hq
    simp [h1, h2]
  unfold entL
  rw [e, ha]
  simp only [hS, BEq.rfl, Bool.true_or, if_true, ec]
  simp
 | s' :: r, t0, k + 1, s, hi, h, ha, hS, hne, hl => by
  have ih := entL_put (S := S) (β := β) (i := i) (b := b) (p := p) r (t0 + 1) k s (by omega) (by simpa using h) ha hS (fun t s q hs => hne (t + 1) s q (by simpa using hs)) hl
  have hne0 : t0 ≠ i := by omega
  have hne' : (t0 == i) = false := by simpa using hne0
  unfold entL
  cases ha' : s'.al with
  | none => exact ih
  | some q =>
   simp only [hne', Bool.false_or, if_neg hne0]
   rw [cont_congr (S := fun j => j == i || S j) (S' := S) (fun q hq => by
    have := hne 0 s' q rfl (by rw [ha']; exact nofun) hq
    simp [this])]
   cases hS' : S t0 with
   | true => simpa using (List.Perm.cons _ ih).trans (List.Perm.swap _ _ _)
   | false => simpa using ih
theorem entL_sto {S : Nat → Bool} {β : Nat → Nat} {i j : Nat} {p : List Rp × TypeId} {ncs : List Rp} : ∀ (r : List Sa) (t0 k : Nat) (s : Sa), j = t0 + k → r[k]? = some s → s.al = some p → s.late = some (i, ncs) → S j = true → S i = false → (∀ (t : Nat) (s : Sa) (q : Nat × List Rp), r[t]? = some s → s.al ≠ none → s.late = some q → t0 + t ≠ j → q.1 ≠ i) → (∀ (t : Nat) (s : Sa), r[t]? = some s → s.al ≠ none → t0 + t ≠ i) →
  ∃ H', (entL S β r t0).Perm (.blk (β j) p.1 p.2 :: H') ∧ (entL (fun j => j == i || S j) β r t0).Perm (.blk (β j) ncs p.2 :: H')
 | [], _, _, _, _, h, _, _, _, _, _, _ => by simp at h
 | s' :: r, t0, 0, s, hj, h, ha, hl, hSj, hSi, hne, hni => by
  simp at h hj; subst h; subst hj
  have e := entL_congr (S := fun x => x == i || S x) (S' := S) (β := β) (β' := β) r (j + 1) (fun t s hs hn => by
   have h1 := hni (t + 1) s (by simpa using hs) hn
   have h1' : j + 1 + t ≠ i := by omega
   refine ⟨by simp [h1'], fun _ => ⟨rfl, fun q hq => ?_⟩⟩
   have := hne (t + 1) s q (by simpa using hs) hn hq (by omega)
   simp [this])
  refine ⟨entL S β r (j + 1), ?_, ?_⟩
  ·rw [entL_cons]
   rw [ha]
   simp [hSj, cont, hl, hSi]
  ·rw [entL_cons]
   rw [ha, e]
   simp [hSj, cont, hl]
 | s' :: r, t0, k + 1, s, hj, h, ha, hl, hSj, hSi, hne, hni => by
  obtain ⟨H', h1, h2⟩ := entL_sto (S := S) (β := β) (i := i) (j := j) (p := p) (ncs := ncs) r (t0 + 1) k s (by omega) (by simpa using h) ha hl hSj hSi (fun t s q hs hn hq hx => hne (t + 1) s q (by simpa using hs) hn hq (by omega)) (fun t s hs hn => by
   have := hni (t + 1) s (by simpa using hs) hn; omega)
  cases ha' : s'.al with
  | none => exact ⟨H', by rw [entL_cons, ha']; exact h1, by rw [entL_cons, ha']; exact h2⟩
  | some q =>
   have hi0 := hni 0 s' rfl (by rw [ha']; exact nofun)
   have hi0' : (t0 == i) = false := by simpa using hi0
   have ec : cont (fun x => x == i || S x) s'.late q.1 = cont S s'.late q.1 := cont_congr (fun q hq => by
    have := hne 0 s' q rfl (by rw [ha']; exact nofun) hq (by omega)
    simp [this])
   cases hS' : S t0 with
   | true =>
    refine ⟨.blk (β t0) (cont S s'.late q.1) q.2 :: H', ?_, ?_⟩
    ·rw [entL_cons]
     rw [ha']; simpa [hS'] using (List.Perm.cons _ h1).trans (List.Perm.swap _ _ _)
    ·rw [entL_cons]
     rw [ha']
     simp only [hi0', Bool.false_or, hS', if_true, ec]
     exact (List.Perm.cons _ h2).trans (List.Perm.swap _ _ _)
   | false =>
    refine ⟨H', ?_, ?_⟩
    ·rw [entL_cons]
     rw [ha']; simpa [hS'] using h1
    ·rw [entL_cons]
     rw [ha']
     simp only [hi0', Bool.false_or, hS']
     simpa using h2
def okA (n : Nat) (ops : List Oper) (N : Nat) (keys : List Nat) (deps : List (List Nat)) (als : List Bool) (lates stos : List (Option Nat)) : Bool :=
 chainB ops N && decide (N ≤ ops.length) &&
 (List.range N).all (fun i => match dstOf ops i with
  | some d => decide (d < n) && !keys.contains d && (List.range N).all (fun j => j == i || dstOf ops j != some d)
  | none => true) &&
 (List.range N).all (fun i => (deps.getD i []).all (fun j => decide (j < N) && (bnds (ops.getD i default)).contains j && !als.getD j true)) &&
 (List.range N).all (fun i => match stos.getD i none with
  | some j => decide (j < N) && (bnds (ops.getD i default)).contains j && als.getD j false && !als.getD i true
  | none => true) &&
 (List.range N).all (fun j => match lates.getD j none with
  | some k => decide (k < N) && als.getD j false && stos.getD k none == some j
  | none => true)
def AlOk (P : Program) (n : Nat) (c : Cx) (opsA : Array Oper) (Q : Exit → Act → World → Prop) (o : Oper) (p : List Rp × TypeId) : Prop :=
 ∀ H a w Z (K : Act → World → Prop), St c H Z w → (∀ b w', St c (.blk b p.1 p.2 :: H) Z w' → K (a.put o.dst (.pointer (some ⟨b, 0, none⟩))) w') →
  Region.wanted o (yielded opsA a.tmps) = true ∧ o.wp P a w K Q
def ObA (P : Program) (n : Nat) (c : Cx) (opsA : Array Oper) (Q : Exit → Act → World → Prop) (ops : List Oper) (sp : List Sa) (l0 : Fr) (H : List Ent) (i : Nat) (o : Oper) : Prop :=
 match (sas sp i).sto with
 | some j => o.dst = none ∧ ∃ d p ncs, dstOf ops j = some d ∧ (sas sp j).al = some p ∧ (sas sp j).late = some (i, ncs) ∧
   ∀ b H, OpOk P n c opsA Q ((d, rv (.pointer (some ⟨b, 0, none⟩))) :: depFr ops (spq sp) (sas sp i).deps l0) (.blk b p.1 p.2 :: H) o (rv undef) (.blk b ncs p.2 :: H)
 | none => match (sas sp i).al with
  | none => ∀ E, OpOk P n c opsA Q (depFr ops (spq sp) (sas sp i).deps l0) (H ++ E) o (sas sp i).r (H ++ E)
  | some p => AlOk P n c opsA Q o p
def OblA (P : Program) (n : Nat) (c : Cx) (opsA : Array Oper) (Q : Exit → Act → World → Prop) (ops : List Oper) (sp : List Sa) (l0 : Fr) (H : List Ent) : Nat → List Oper → Prop
 | i, o :: rest => ObA P n c opsA Q ops sp l0 H i o ∧ OblA P n c opsA Q ops sp l0 H (i + 1) rest
 | _, [] => True
section
variable {P : Program} {n : Nat} {c : Cx} {opsA : Array Oper} {Q : Exit → Act → World → Prop} {l l0 : Fr} {H : List Ent} {sp : List Sa}
theorem OblA.at {ops : List Oper} : ∀ {k : Nat} {rest : List Oper}, OblA P n c opsA Q ops sp l0 H k rest → ∀ (t : Nat) o, rest[t]? = some o → ObA P n c opsA Q ops sp l0 H (k + t) o
 | k, o :: rest, ⟨h1, h2⟩, t, o', ht => by
  cases t with
  | zero => simp at ht; subst ht; exact h1
  | succ t =>
   have := OblA.at h2 t o' (by simpa using ht)
   rw [show k + (t + 1) = k + 1 + t from by omega]
   exact this
 | _, [], _, t, o, h => by simp at h
theorem agr_zip {β : Nat → Nat} {a : Act} {Z : Fz} (h0 : Agr n l0 a Z) : ∀ (os : List Oper) (ss : List Sa) (k : Nat), (∀ (t : Nat) o s d, os[t]? = some o → ss[t]? = some s → o.dst = some d → ∃ v, a.tmps[d]? = some v ∧ (raOf β s (k + t)).p Z v) → Agr n (zipA β os ss k l0) a Z
 | [], _, _, _ => by unfold zipA; exact h0
 | _ :: _, [], _, _ => by unfold zipA; exact h0
 | o :: os, s :: ss, k, h => by
  have ih := agr_zip h0 os ss (k + 1) (fun t o' s' d h1 h2 h3 => by
   have := h (t + 1) o' s' d (by simpa using h1) (by simpa using h2) h3
   rw [show k + 1 + t = k + (t + 1) from by omega]; exact this)
  unfold zipA
  cases hd : o.dst with
  | none => exact ih
  | some d =>
   refine ⟨ih.size, ih.defers, fun i r hi => ?_⟩
   rw [look_cons] at hi
   split at hi
   ·rename_i e; subst e; simp at hi; subst hi; exact h 0 o s d rfl rfl hd
   ·exact ih.tm i r hi
theorem wc_rda {id : Nat} {ops : List Oper} (N : Nat) (sp : List Sa) (hm : P.follows .mixedOrders = true) (hB : okA n ops N (keysOf l0) (sp.map (·.deps)) (sp.map (·.al.isSome)) (sp.map (·.late.map (·.1))) (sp.map (·.sto)) = true) (hl0 : SubL l0 l) (hsp : sp.length = N)
  (hob : OblA P n c ops.toArray Q ops sp l0 H 0 (ops.take N)) (h : ∀ β, WL P n c ops.toArray Q (ops.drop N) (zipA β (ops.take N) sp 0 l0) (H ++ entA β sp 0)) : WC P n c (.region id ops.toArray true) Q l H := by
 intro a w Z ha hw
 simp only [okA, Bool.and_eq_true, List.all_eq_true, List.mem_range, decide_eq_true_eq] at hB
 obtain ⟨⟨⟨⟨⟨b1, bN⟩, b2⟩, b3⟩, b4⟩, b5⟩ := hB
 have hget : ∀ i, i < N → (ops.take N)[i]? = ops[i]? := fun i hi => by rw [List.getElem?_take, if_pos hi]
 have hsa : ∀ i, i < N → sp[i]? = some (sas sp i) := fun i hi => by
  simp [sas, List.getD_eq_getElem?_getD, List.getElem?_eq_getElem (show i < sp.length by omega)]
 have hspq : ∀ i, i < N → (sps (spq sp) i) = ⟨(sas sp i).deps, (sas sp i).r, 0⟩ := fun i hi => by
  simp [sps, spq, List.getD_eq_getElem?_getD, List.getElem?_map, hsa i hi]
 have hals : ∀ j b, j < N → (sp.map (·.al.isSome)).getD j b = (sas sp j).al.isSome := fun j b hj => by simp [List.getD_eq_getElem?_getD, List.getElem?_map, hsa j hj]
 have hstos : ∀ j, j < N → (sp.map (·.sto)).getD j none = (sas sp j).sto := fun j hj => by simp [List.getD_eq_getElem?_getD, List.getElem?_map, hsa j hj]
 have hlates : ∀ j, j < N → (sp.map (·.late.map (·.1))).getD j none = (sas sp j).late.map (·.1) := fun j hj => by simp [List.getD_eq_getElem?_getD, List.getElem?_map, hsa j hj]
 have S1 : ∀ i o j, i < N → ops[i]? = some o → (sas sp i).sto = some j → j < N ∧ j ∈ bnds o ∧ (sas sp j).al ≠ none ∧ (sas sp i).al = none := fun i o j hi ho hs => by
  have h1 := b4 i hi
  rw [hstos i hi, hs] at h1
  simp only [Bool.and_eq_true, Bool.not_eq_true', decide_eq_true_eq] at h1
  obtain ⟨⟨⟨h2, h3⟩, h4⟩, h5⟩ := h1
  rw [hals j _ h2] at h4
  rw [hals i _ hi] at h5
  rw [List.getD_eq_getElem?_getD, ho, Option.getD_some, List.contains_iff_mem] at h3
  exact ⟨h2, h3, fun e => (by rw [e] at h4; cases h4), (by simpa using h5)⟩
 have L1 : ∀ t q, t < N → (sas sp t).late = some q → q.1 < N ∧ (sas sp q.1).sto = some t := fun t q ht hq => by
  have h1 := b5 t ht
  rw [hlates t ht, hq] at h1
  simp only [Option.map_some, Bool.and_eq_true, decide_eq_true_eq, beq_iff_eq] at h1
  obtain ⟨⟨h2, h3⟩, h4⟩ := h1
  rw [hstos _ h2] at h4
  exact ⟨h2, h4⟩
 have hops : ∀ j, j < N → ∃ o, ops[j]? = some o := fun j hj => ⟨ops[j]'(by omega), List.getElem?_eq_getElem (by omega)⟩
 have lt_of : ∀ (t : Nat) (s : Sa), sp[t]? = some s → t < N ∧ s = sas sp t := fun t s hs => by
  have h1 : t < N := by have := (List.getElem?_eq_some_iff.1 hs).1; omega
  refine ⟨h1, ?_⟩
  rw [hsa t h1] at hs; simpa using hs.symm
 have hdst : ∀ i o d, i < N → ops[i]? = some o → o.dst = some d → (d < n ∧ d ∉ keysOf l0) ∧ ∀ j, j < N → j ≠ i → dstOf ops j ≠ some d := fun i o d hi ho hd => by
  have h3 := b2 i hi
  have : dstOf ops i = some d := by simp [dstOf, ho, hd]
  rw [this] at h3
  simp only [Bool.and_eq_true, Bool.not_eq_true', List.all_eq_true, List.mem_range, decide_eq_true_eq] at h3
  refine ⟨⟨h3.1.1, fun hmem => by rw [← List.contains_iff_mem] at hmem; rw [hmem] at h3; cases h3.1.2⟩, fun j hj hne he => ?_⟩
  have := h3.2 j hj
  simp [hne, he] at this
 refine wp_inv (N := N) hm b1 bN (fun S a w => ∃ (β : Nat → Nat) (Z : Fz), St c (H ++ entL S β sp 0) Z w ∧ Agr n l0 a Z ∧ (∀ j o d, j < N → S j = true → ops[j]? = some o → o.dst = some d → ∃ v, a.tmps[d]? = some v ∧ (raOf β (sas sp j) j).p Z v) ∧
   ∀ k j, k < N → (sas sp k).sto = some j → S k = true → S j = true)
  (fun S S' a w hS hI => ?_) ⟨fun _ => 0, Z, ?_, ha.subL hl0, fun j o d _ hS => (by cases hS), fun k j _ _ hS => (by cases hS)⟩ (fun S i o a w hi hun ho hb hI K hK => ?_) (fun a w hI => ?_)
 ·obtain ⟨β, Z, h1, h2, h3, h4⟩ := hI
  refine ⟨β, Z, ?_, h2, fun j o d hj hS' => h3 j o d hj (by rw [hS j hj]; exact hS'), fun k j hk hs hSk => ?_⟩
  ·rw [← entL_congr (S := S) (β := β) (β' := β) sp 0 (fun t s hs _ => by
    obtain ⟨ht, rfl⟩ := lt_of t s hs
    exact ⟨hS _ (by omega), fun _ => ⟨rfl, fun q hq => hS _ (L1 t q ht hq).1⟩⟩)]
   exact h1
  ·obtain ⟨o, ho⟩ := hops k hk
   rw [← hS j (S1 k o j hk ho hs).1]
   exact h4 k j hk hs (by rw [hS k hk]; exact hSk)
 ·rw [entL_none, List.append_nil]; exact hw.drawn _
 ·obtain ⟨β, Z, h1, h2, h3, hx⟩ := hI
  have hput : ∀ k u v, a.tmps[k]? = some u → o.dst ≠ some k → (a.put o.dst v).tmps[k]? = some u := fun k u v hk hne => by
   cases hd : o.dst with
   | none => simpa [Act.put] using hk
   | some d =>
    simp only [Act.put, Array.getElem?_setIfInBounds]
    rw [if_neg (fun e => hne (by rw [hd, e]))]; exact hk
  have hagr : ∀ v Z', Fz.le Z Z' → Agr n l0 (a.put o.dst v) Z' := fun v Z' hz => by
   refine ⟨?_, ?_, fun k r hk => ?_⟩
   ·cases o.dst <;> simp [Act.put, h2.size]
   ·cases o.dst <;> simp [Act.put, h2.defers]
   ·obtain ⟨u, hu, hpu⟩ := h2.tm k r hk
    exact ⟨u, hput k u v hu (fun e => ((hdst i o k hi ho e).1).2 (look_mem hk)), r.mono hz hpu⟩
  have hvals : ∀ (v : Value) (Z' : Fz) (β' : Nat → Nat), Fz.le Z Z' → (∀ j, j ≠ i → β' j = β j) → (o.dst ≠ none → (raOf β' (sas sp i) i).p Z' v) → ∀ j o' d, j < N → (j == i || S j) = true → ops[j]? = some o' → o'.dst = some d → ∃ u, (a.put o.dst v).tmps[d]? = some u ∧ (raOf β' (sas sp j) j).p Z' u := by
   intro v Z' β' hz hβ hp j o' d hj hS' ho' hd
   by_cases hji : j = i
   ·subst hji
    rw [ho] at ho'; simp at ho'; subst ho'
    refine ⟨v, ?_, hp (by simp [hd])⟩
    have hdn : d < a.tmps.size := by rw [h2.size]; exact (hdst j o d hi ho hd).1.1
    simp [Act.put, hd, hdn]
   ·have hSj : S j = true := by simpa [hji] using hS'
    obtain ⟨u, hu, hpu⟩ := h3 j o' d hj hSj ho' hd
    refine ⟨u, hput d u v hu (fun e => (hdst i o d hi ho e).2 j hj hji (by simp [dstOf, ho', hd])), ?_⟩
    have : raOf β' (sas sp j) j = raOf β (sas sp j) j := by unfold raOf; rw [hβ j hji]
    rw [this]; exact (raOf β (sas sp j) j).mono hz hpu
  have hx' : ∀ k j, k < N → (sas sp k).sto = some j → (k == i || S k) = true → (j == i || S j) = true := fun k j hk hs hSk => by
   by_cases hki : k = i
   ·subst hki
    have := (hb j (S1 k o j hk ho hs).2.1).2
    simp [this]
   ·have : S j = true := hx k j hk hs (by simpa [hki] using hSk)
    simp [this]
  have hat := hob.at i o (by rw [hget i hi]; exact ho)
  rw [Nat.zero_add] at hat
  unfold ObA at hat
  have hag' : Agr n (depFr ops (spq sp) (sas sp i).deps l0) a Z := agr_dep h2 (fun j hj d hd => by
    have h4 := b3 i hi j (by simpa [List.getD_eq_getElem?_getD, List.getElem?_map, hsa i hi] using hj)
    simp only [Bool.and_eq_true, Bool.not_eq_true', decide_eq_true_eq] at h4
    obtain ⟨⟨h5, h6⟩, h7⟩ := h4
    rw [List.getD_eq_getElem?_getD, ho, Option.getD_some, List.contains_iff_mem] at h6
    have hjal : (sas sp j).al = none := by
     rw [hals j _ h5] at h7
     simpa using h7
    obtain ⟨o2, ho2⟩ := hops j h5
    obtain ⟨v, hv1, hv2⟩ := h3 j o2 d h5 (hb j h6).2 ho2 (by simpa [dstOf, ho2] using hd)
    refine ⟨v, hv1, ?_⟩
    rw [hspq j h5]
    simpa [raOf, hjal] using hv2)
  cases hst : (sas sp i).sto with
  | some j =>
   rw [hst] at hat
   obtain ⟨hod, d, p, ncs, hd, hal, hlate, hok⟩ := hat
   obtain ⟨hjN, hjb, _, hial⟩ := S1 i o j hi ho hst
   have hSj := (hb j hjb).2
   obtain ⟨H', p1, p2⟩ := entL_sto (S := S) (β := β) (i := i) (j := j) (p := p) (ncs := ncs) sp 0 j (sas sp j) (by omega) (hsa j hjN) hal hlate hSj hun (fun t s q hs _ hq hne he => by
     obtain ⟨ht, rfl⟩ := lt_of t s hs
     have := (L1 t q ht hq).2
     rw [he, hst] at this
     simp at this; omega) (fun t s hs hn he => by
     obtain ⟨ht, rfl⟩ := lt_of t s hs
     rw [Nat.zero_add] at he; subst he
     exact hn hial)
   obtain ⟨o2, ho2⟩ := hops j hjN
   obtain ⟨v, hv1, hv2⟩ := h3 j o2 d hjN hSj ho2 (by simpa [dstOf, ho2] using hd)
   have hag2 : Agr n ((d, rv (.pointer (some ⟨β j, 0, none⟩))) :: depFr ops (spq sp) (sas sp i).deps l0) a Z := ⟨hag'.size, hag'.defers, fun k r hk => by
    rw [look_cons] at hk
    split at hk
    ·rename_i e; subst e; simp at hk; subst hk
     exact ⟨v, hv1, by simpa [raOf, hal] using hv2⟩
    ·exact hag'.tm k r hk⟩
   refine hok (β j) (H ++ H') a w Z K hag2 (h1.perm ((List.Perm.append_left H p1).trans List.perm_middle)) (fun v w' Z' hz _ hs' => hK _ _ ⟨β, Z', ?_, hagr v Z' hz, hvals v Z' β hz (fun _ _ => rfl) (fun hne => absurd hod hne), hx'⟩)
   exact hs'.perm (List.perm_middle.symm.trans (List.Perm.append_left H p2.symm))
  | none =>
   rw [hst] at hat
   have latene : ∀ t q, t < N → (sas sp t).late = some q → q.1 ≠ i := fun t q ht hq he => by
    have := (L1 t q ht hq).2
    rw [he, hst] at this; cases this
   cases hal : (sas sp i).al with
   | none =>
    rw [hal] at hat
    refine hat _ a w Z K hag' h1 (fun v w' Z' hz hp hst' => hK _ _ ⟨β, Z', ?_, hagr v Z' hz, hvals v Z' β hz (fun _ _ => rfl) (fun _ => by unfold raOf; rw [hal]; exact hp), hx'⟩)
    rw [entL_congr (S' := S) (β' := β) sp 0 (fun t s hs hn => by
     obtain ⟨ht, rfl⟩ := lt_of t s hs
     have : t ≠ i := fun e => by subst e; exact hn hal
     refine ⟨by simp [this], fun _ => ⟨rfl, fun q hq => ?_⟩⟩
     have := latene t q ht hq
     simp [this])]
    exact hst'
   | some p =>
    rw [hal] at hat
    have key := fun K' hK' => hat (H ++ entL S β sp 0) a w Z K' h1 hK'
    have h5 : ∀ b w', St c (.blk b p.1 p.2 :: (H ++ entL S β sp 0)) Z w' → K (a.put o.dst (.pointer (some ⟨b, 0, none⟩))) w' := fun b w' hst' => by
     refine hK _ _ ⟨fun j => if j = i then b else β j, Z, ?_, hagr _ Z (Fz.le.refl _), hvals _ Z _ (Fz.le.refl _) (fun j hj => by simp [hj]) (fun _ => by simp [raOf, hal, rv]), hx'⟩
     have hp := entL_put (S := S) (β := β) (i := i) (b := b) (p := p) sp 0 i (sas sp i) (by omega) (hsa i hi) hal hun (fun t s q hs _ hq => by
      obtain ⟨ht, rfl⟩ := lt_of t s hs
      exact latene t q ht hq) (fun q hq => by
       refine ⟨?_, latene i q hi hq⟩
       cases hS : S q.1 with
       | false => rfl
       | true =>
        obtain ⟨h6, h7⟩ := L1 i q hi hq
        have := hx q.1 i h6 h7 hS
        rw [this] at hun; cases hun)
     exact hst'.perm ((List.perm_middle.symm).trans (List.Perm.append_left H hp.symm))
    refine ⟨fun _ => (key K h5).2, fun hw' => ?_⟩
    rw [(key K h5).1] at hw'; cases hw'
 ·obtain ⟨β, Z, h1, h2, h3, _⟩ := hI
  refine h β a w Z (agr_zip h2 _ _ 0 (fun t o s d ht hs hd => ?_)) (by rw [← entL_all]; exact h1)
  obtain ⟨htN, rfl⟩ := lt_of t s hs
  rw [Nat.zero_add]
  exact h3 t o d htN rfl (by rw [← hget t htN]; exact ht) hd
end
section
variable {P : Program} {n : Nat} {c : Cx} {opsA : Array Oper} {Q : Exit → Act → World → Prop} {l l0 : Fr} {H : List Ent} {sp : List Sa}
theorem wc_rdak {id : Nat} {ops : List Oper} (N : Nat) (ks0 : List Nat) (sp : List Sa) (hob : OblA P n c ops.toArray Q ops sp l0 H 0 (ops.take N)) (h : ∀ β, WL P n c ops.toArray Q (ops.drop N) (zipA β (ops.take N) sp 0 l0) (H ++ entA β sp 0))
  (h0 : Kp ks0 l l0 := by repeat (first | exact kp_n | (apply kp_y; rfl) | (apply kp_d; rfl))) (hm : P.follows .mixedOrders = true := by kernel_rfl) (hB : okA n ops N (keysOf l0) (sp.map (·.deps)) (sp.map (·.al.isSome)) (sp.map (·.late.map (·.1))) (sp.map (·.sto)) = true := by kernel_rfl)
  (hsp : sp.length = N := by rfl) : WC P n c (.region id ops.toArray true) Q l H := wc_rda N sp hm hB h0.one hsp hob h
theorem oaq {all rest : List Oper} {d : Nat} {op : Op} {ty : TypeId} {pos : String} {af : Array Edge} {i : Nat}
  (hr : ∀ {H}, ORun P n c (depFr all (spq sp) (sas sp i).deps l0) H { dst := some d, op := op, type := ty, pos := pos, after := af, guard := none } (sas sp i).r) (h : OblA P n c opsA Q all sp l0 H (i + 1) rest) (ha : (sas sp i).al = none := by rfl) (hs : (sas sp i).sto = none := by rfl) :
  OblA P n c opsA Q all sp l0 H i ({ dst := some d, op := op, type := ty, pos := pos, after := af, guard := none } :: rest) := by
 refine ⟨?_, h⟩
 unfold ObA; rw [hs, ha]; exact fun _ => ok_v hr
theorem oaf {all rest : List Oper} {d : Nat} {op : Op} {ty : TypeId} {pos : String} {af : Array Edge} {i : Nat}
  (hr : ∀ {E}, ORun P n c (depFr all (spq sp) (sas sp i).deps l0) (H ++ E) { dst := some d, op := op, type := ty, pos := pos, after := af, guard := none } (sas sp i).r) (h : OblA P n c opsA Q all sp l0 H (i + 1) rest) (ha : (sas sp i).al = none := by rfl) (hs : (sas sp i).sto = none := by rfl) :
  OblA P n c opsA Q all sp l0 H i ({ dst := some d, op := op, type := ty, pos := pos, after := af, guard := none } :: rest) := by
 refine ⟨?_, h⟩
 unfold ObA; rw [hs, ha]; exact fun _ => ok_v hr
theorem oae {all : List Oper} {i : Nat} : OblA P n c opsA Q all sp l0 H i [] := trivial
end
structure Kza (ks : List Nat) (β : Nat → Nat) (os : List Oper) (sp : List Sa) (i : Nat) (l0 l1 : Fr) : Prop where
 go : Kp ks (zipA β os sp i l0) l1
section
variable {ks : List Nat} {β : Nat → Nat} {os : List Oper} {sp : List Sa} {i d : Nat} {l0 l1 : Fr} {ds : List Nat} {r : Rp} {p : List Rp × TypeId} {lt : Option (Nat × List Rp)} {so : Option Nat} {op : Op} {ty : TypeId} {pos : String} {af : Array Edge} {g : Option (Nat × Bool)}
theorem kza_y (h : ks.contains d = true) (t : Kza ks β os sp (i + 1) l0 l1) : Kza ks β ({ dst := some d, op := op, type := ty, pos := pos, after := af, guard := g } :: os) ({ deps := ds, r := r, sto := so } :: sp) i l0 ((d, r) :: l1) := ⟨kp_y h t.go⟩
theorem kza_a (h : ks.contains d = true) (t : Kza ks β os sp (i + 1) l0 l1) : Kza ks β ({ dst := some d, op := op, type := ty, pos := pos, after := af, guard := g } :: os) ({ deps := ds, r := r, al := some p, late := lt, sto := so } :: sp) i l0 ((d, rv (.pointer (some ⟨β i, 0, none⟩))) :: l1) := ⟨kp_y h t.go⟩
theorem kza_d {s : Sa} (h : ks.contains d = false) (t : Kza ks β os sp (i + 1) l0 l1) : Kza ks β ({ dst := some d, op := op, type := ty, pos := pos, after := af, guard := g } :: os) (s :: sp) i l0 l1 := ⟨kp_d h t.go⟩
theorem kza_u {s : Sa} (t : Kza ks β os sp (i + 1) l0 l1) : Kza ks β ({ dst := none, op := op, type := ty, pos := pos, after := af, guard := g } :: os) (s :: sp) i l0 l1 := ⟨t.go⟩
theorem kza_0 (t : Kp ks l0 l1) : Kza ks β [] [] i l0 l1 := ⟨t⟩
theorem wl_kza {P : Program} {n : Nat} {c : Cx} {opsA : Array Oper} {Q : Exit → Act → World → Prop} {rest : List Oper} {H H1 : List Ent} (ks : List Nat) (h : WL P n c opsA Q rest l1 H1)
  (hz : Kza ks β os sp i l0 l1 := by repeat (first | (apply kza_y; rfl) | (apply kza_a; rfl) | (apply kza_d; rfl) | apply kza_u | apply kza_0 | exact kp_n | (apply kp_y; rfl) | (apply kp_d; rfl))) (hH : H = H1 := by rfl) :
  WL P n c opsA Q rest (zipA β os sp i l0) H := fun a w Z ha hw => h a w Z (ha.subL hz.go.one) (hH ▸ hw)
end
section
variable {P : Program} {n : Nat} {c : Cx} {opsA : Array Oper} {Q : Exit → Act → World → Prop} {l l0 : Fr} {H : List Ent} {sp : List Sa}
theorem oac {all rest : List Oper} {o : Oper} {i : Nat} (hr : ∀ {E}, OpOk P n c opsA Q (depFr all (spq sp) (sas sp i).deps l0) (H ++ E) o (sas sp i).r (H ++ E)) (h : OblA P n c opsA Q all sp l0 H (i + 1) rest) (ha : (sas sp i).al = none := by rfl) (hs : (sas sp i).sto = none := by rfl) : OblA P n c opsA Q all sp l0 H i (o :: rest) := by
 refine ⟨?_, h⟩
 unfold ObA; rw [hs, ha]; exact fun _ => hr
end
end Go.Proofs.YtjfnokmpfekniaaGreatDoor.Q

/-
 Maps from strings: made, looked up, changed, gone through. Plain theorems over any program; no condition.
-/
namespace Go.Proofs.YtjfnokmpfekniaaGreatDoor.Q
open Go Go.RowKit
set_option linter.unusedVariables false
set_option linter.unusedSimpArgs false
theorem isKey_str (s : ByteArray) : MapKept.IsKey .string (.string s) := by simp [MapKept.IsKey]
theorem Ali.keys {Z : Fz} : ∀ {f : List (List UInt8 × Rp)} {es : List MapEntry}, Ali Z f es → ∀ x ∈ es, MapKept.IsKey .string x.key
 | [], [], _, x, hx => by cases hx
 | p :: f, e :: es, ⟨⟨h1, h2⟩, h3⟩, x, hx => by
  rcases List.mem_cons.1 hx with rfl | hx
  ·rw [h1]; exact isKey_str _
  ·exact Ali.keys h3 x hx
theorem Ali.at {Z : Fz} : ∀ {f : List (List UInt8 × Rp)} {es : List MapEntry}, Ali Z f es → f.length = es.length ∧ ∀ (j : Nat) (e : MapEntry), es[j]? = some e → ∃ k r, f[j]? = some (k, r) ∧ e.key = .string (B k) ∧ r.p Z e.val
 | [], [], _ => ⟨rfl, fun j e h => by simp at h⟩
 | p :: f, e :: es, ⟨⟨h1, h2⟩, h3⟩ => by
  obtain ⟨hl, ha⟩ := Ali.at h3
  refine ⟨by simp [hl], fun j e' hj => ?_⟩
  cases j with
  | zero => simp at hj; subst hj; exact ⟨p.1, p.2, rfl, h1, h2⟩
  | succ j => simp at hj; simpa using ha j e' hj
theorem Ali.of {Z : Fz} : ∀ {f : List (List UInt8 × Rp)} {es : List MapEntry}, f.length = es.length → (∀ (j : Nat) (e : MapEntry), es[j]? = some e → ∃ k r, f[j]? = some (k, r) ∧ e.key = .string (B k) ∧ r.p Z e.val) → Ali Z f es
 | [], [], _, _ => trivial
 | p :: f, e :: es, hl, h => by
  obtain ⟨k, r, h1, h2, h3⟩ := h 0 e rfl
  simp at h1; subst h1
  exact ⟨⟨h2, h3⟩, Ali.of (by simpa using hl) fun j e' hj => by simpa using h (j + 1) e' (by simpa using hj)⟩
 | [], _ :: _, hl, _ => by simp at hl
 | _ :: _, [], hl, _ => by simp at hl
theorem Ali.snoc {Z : Fz} {k : List UInt8} {r : Rp} {e : MapEntry} (h1 : e.key = .string (B k)) (h2 : r.p Z e.val) : ∀ {f : List (List UInt8 × Rp)} {es : List MapEntry}, Ali Z f es → Ali Z (f ++ [(k, r)]) (es ++ [e])
 | [], [], _ => ⟨⟨h1, h2⟩, trivial⟩
 | p :: f, e' :: es, ⟨h, h3⟩ => ⟨h, Ali.snoc h1 h2 h3⟩
theorem Ali.filter {Z : Fz} (q : MapEntry → Bool) : ∀ {f : List (List UInt8 × Rp)} {es : List MapEntry}, Ali Z f es → ∃ g, Ali Z g (es.filter q) ∧ g.Sublist f
 | [], [], _ => ⟨[], trivial, List.Sublist.refl _⟩
 | p :: f, e :: es, ⟨h, h3⟩ => by
  obtain ⟨g, hg, hs⟩ := Ali.filter q h3
  cases hq : q e with
  | true => exact ⟨p :: g, by rw [List.filter_cons_of_pos hq]; exact ⟨h, hg⟩, hs.cons_cons p⟩
  | false => exact ⟨g, by rw [List.filter_cons_of_neg (by simp [hq])]; exact hg, hs.cons p⟩
theorem mget_mem {T : Type} : ∀ {m : List (Str × T)} {k : Str} {r : T}, (m.map (·.1)).Nodup → (k, r) ∈ m → mget m k = some r
 | p :: m, k, r, hn, h => by
  rw [List.map_cons, List.nodup_cons] at hn
  rw [mget]
  rcases List.mem_cons.1 h with h | h
  ·subst h; rw [decide_eq_true rfl]; rfl
  ·have hne : ¬ p.1 = k := fun e => hn.1 (by rw [e]; exact List.mem_map.2 ⟨(k, r), h, rfl⟩)
   rw [decide_eq_false hne]; exact mget_mem hn.2 h
theorem mget_none {T : Type} : ∀ {m : List (Str × T)} {k : Str}, (∀ p ∈ m, p.1 ≠ k) → mget m k = none
 | [], _, _ => rfl
 | p :: m, k, h => by
  rw [mget, decide_eq_false (h p (by simp))]; exact mget_none fun q hq => h q (by simp [hq])
theorem B_inj {a b : List UInt8} (h : B a = B b) : a = b := by
 have := congrArg ByteArray.toList h
 rwa [B_toList, B_toList] at this
theorem strB_inj {a b : List UInt8} (h : Value.string (B a) = .string (B b)) : a = b := B_inj (by cases h; rfl)
theorem find_is {Z : Fz} {m : List (List UInt8 × Rp)} {es : List MapEntry} {ck : Nat} (h : MapIs Z m es ck) (k : List UInt8) :
  (Instr.findNow .string (.string (B k)) es 0 = some none ∧ mget m k = none ∧ ∀ p ∈ m, p.1 ≠ k) ∨ ∃ j e r, Instr.findNow .string (.string (B k)) es 0 = some (some (j, e.val)) ∧ es[j]? = some e ∧ e.key = .string (B k) ∧ mget m k = some r ∧ r.p Z e.val := by
 obtain ⟨h1, h2, h3, f, h4, h5⟩ := h
 obtain ⟨hl, ha⟩ := h5.at
 rcases MapKept.findNow_spec (isKey_str (B k)) es 0 h5.keys with ⟨q1, q2⟩ | ⟨j, e, q1, q2, q3⟩
 ·have hne : ∀ p ∈ m, p.1 ≠ k := fun p hp e => by
   obtain ⟨j, hj⟩ := List.mem_iff_getElem?.1 (h4.symm.subset hp)
   have hjl : j < es.length := by rw [← hl]; exact (List.getElem?_eq_some_iff.1 hj).1
   obtain ⟨k', r', e1, e2, _⟩ := ha j es[j] (List.getElem?_eq_getElem hjl)
   rw [hj] at e1; cases e1
   exact q2 es[j] (List.getElem_mem hjl) (by rw [e2, ← e])
  exact .inl ⟨q1, mget_none hne, hne⟩
 ·obtain ⟨k', r, e1, e2, e3⟩ := ha j e q2
  rw [q3] at e2
  obtain rfl := strB_inj e2
  exact .inr ⟨j, e, r, by simpa using q1, q2, q3, mget_mem h1 (h4.subset (List.mem_of_getElem? e1)), e3⟩
section
variable {P : Program} {n : Nat} {c : Cx} {ops : Array Oper} {Q : Exit → Act → World → Prop} {rest : List Oper} {l : Fr} {H : List Ent} {d : Nat} {d' : Option Nat} {ty t kt et rty : TypeId} {pos : String} {af : Array Edge} {g : Option (Nat × Bool)} {x y u : Operand} {K : Act → World → Prop} {cx : Code}
variable {T : Type} {enc : T → Rp} {xs : List (Str × T)} {z : T} {k : Str} {zv : Value} {i b : Nat}
theorem run_lookup_is {Z : Fz} {w : World} {m : List (List UInt8 × Rp)} {rz : Rp} (ht : P.underlying t = some (.map kt et)) (hk : P.underlying kt = some .string) (hz : ∀ w, (zeroValue et).run P w = .ok zv w) (hzr : rz.p Z zv) (hm : (Ent.map b m).holds Z w) (ok : Bool) :
  ∃ v, ((mget m k).getD rz).p Z v ∧ (Instr.lookup t (.map (some b)) (.string (B k)) ok).run P w = .ok (if ok then .tuple #[v, .bool (mget m k).isSome] else v) w := by
 obtain ⟨es, ck, h1, h2⟩ := hm
 rcases find_is h2 k with ⟨q1, q2, _⟩ | ⟨j, e, r, q1, _, _, q2, q3⟩
 ·exact ⟨zv, by rw [q2]; exact hzr, by simp [Instr.lookup, run_underlying ht, MapKept.run_getObj_map h1, MapKept.run_checkKey hk (isKey_str _), MapKept.run_findKey hk q1, hz, q2]⟩
 ·exact ⟨e.val, by rw [q2]; exact q3, by simp [Instr.lookup, run_underlying ht, MapKept.run_getObj_map h1, MapKept.run_checkKey hk (isKey_str _), MapKept.run_findKey hk q1, q2]⟩
theorem getD_enc (enc : T → Rp) (xs : List (Str × T)) (k : Str) (z : T) : (mget (menc enc xs) k).getD (enc z) = enc (mval xs k z) := by
 rw [mget_enc]; unfold mval; cases mget xs k <;> rfl
theorem isSome_enc (enc : T → Rp) (xs : List (Str × T)) (k : Str) : (mget (menc enc xs) k).isSome = mhas xs k := by
 rw [mget_enc]; unfold mhas; cases mget xs k <;> rfl
theorem o_mgetc (ht : P.underlying t = some (.map kt et)) (hk : P.underlying kt = some .string) (hz : ∀ w, (zeroValue et).run P w = .ok zv w) (hzr : ∀ Z, (enc z).p Z zv) (hx : ev l x = some (rv (.map (some b)))) (hi : H[i]? = some (.map b (menc enc xs))) (hy : ev l y = some (rS k)) :
  ORun P n c l H { dst := d', op := .lookup t x y true, type := ty, pos := pos, after := af, guard := g } (rTup [enc (mval xs k z), rB (mhas xs k)]) := fun a w Z ha hw => by
 obtain ⟨v, h1, h2⟩ := run_lookup_is (k := k) ht hk hz (hzr Z) (hw.ent hi) true
 rw [getD_enc] at h1
 refine ⟨.tuple #[v, .bool (mhas xs k)], ⟨[v, .bool (mhas xs k)], rfl, h1, rfl, trivial⟩, ?_⟩
 rw [isSome_enc] at h2
 simp [execOp, ha.eval hx, ha.eval hy, h2]
theorem o_mget (ht : P.underlying t = some (.map kt et)) (hk : P.underlying kt = some .string) (hz : ∀ w, (zeroValue et).run P w = .ok zv w) (hzr : ∀ Z, (enc z).p Z zv) (hx : ev l x = some (rv (.map (some b)))) (hi : H[i]? = some (.map b (menc enc xs))) (hy : ev l y = some (rS k)) :
  ORun P n c l H { dst := d', op := .lookup t x y false, type := ty, pos := pos, after := af, guard := g } (enc (mval xs k z)) := fun a w Z ha hw => by
 obtain ⟨v, h1, h2⟩ := run_lookup_is (k := k) ht hk hz (hzr Z) (hw.ent hi) false
 rw [getD_enc] at h1
 simp only [Bool.false_eq_true, if_false] at h2
 exact ⟨v, h1, by simp [execOp, ha.eval hx, ha.eval hy, h2]⟩
theorem MapIs.length {Z : Fz} {m : List (List UInt8 × Rp)} {es : List MapEntry} {ck : Nat} (h : MapIs Z m es ck) : es.length = m.length := by
 obtain ⟨_, _, _, f, h4, h5⟩ := h
 rw [← h5.at.1, h4.length_eq]
theorem o_mlen {m : List (List UInt8 × Rp)} {N : Nat} (ht : P.underlying t = some (.map kt et)) (hx : ev l x = some (rv (.map (some b)))) (hi : H[i]? = some (.map b m)) (hN : m.length = N) :
  ORun P n c l H { dst := d', op := .call { callee := .builtin .len, args := #[x], argTypes := #[t] }, type := ty, pos := pos, after := af, guard := g } (rI .i64 N) := fun a w Z ha hw => o_mk <| by
 obtain ⟨es, ck, h1, h2⟩ := hw.ent hi
 have hl : es.size = N := by rw [← hN, ← h2.length]; simp
 simp [execOp, resolve, invoke, builtin, ha.eval hx, Builtin.len_, run_underlying ht, goInt, MapKept.run_getObj_map h1, hl]
theorem o_mnotnil {v : Option Nat} (ht : P.underlying t = some (.map kt et)) (hx : ev l x = some (rv (.map v))) : ORun P n c l H { dst := d', op := .binOp .neq t x (.const (.map none)) rty, type := ty, pos := pos, after := af, guard := g } (rB (!v.isNone)) := fun a w Z ha hw => o_mk <| by
 have e2 : a.eval (.const (.map none)) = .map none := rfl
 have h := run_equal_map_nil (P := P) w t kt et v ht
 simp [execOp, ha.eval hx, e2, eqGuard, binOp, h]
theorem w_makeMap (hn : Nat.blt d n = true) (h : ∀ b, WL P n c ops Q rest ((d, rv (.map (some b))) :: l) (.map b [] :: H)) :
  WL P n c ops Q ({ dst := some d, op := .makeMap t none, type := ty, pos := pos, after := af, guard := none } :: rest) l H :=
 wl_w (fun a w Z ha hw => ⟨_, w.alloc (.map #[] 0), _, _, Z, by simp [execOp, run_makeMap], Fz.le.refl _, rfl,
  hw.alloc _ (e := .map w.heap.size []) ⟨#[], 0, by simpa using heap_alloc_new w _, by simp, by simp, by simp, [], List.Perm.refl _, trivial⟩ rfl, h w.heap.size⟩) hn
theorem perm_put {m f : List (Str × Rp)} (h : f.Perm m) (k : Str) (r : Rp) : (mput f k r).Perm (mput m k r) := h.map _
theorem mput_at {T : Type} : ∀ {f : List (Str × T)} {j : Nat} {k : Str} {r0 : T} (r : T), (f.map (·.1)).Nodup → f[j]? = some (k, r0) → mput f k r = f.set j (k, r)
 | p :: f, 0, k, r0, r, hn, h => by
  simp at h; subst h
  rw [List.map_cons, List.nodup_cons] at hn
  have : mput f k r = f := by
   unfold mput
   rw [List.map_congr_left (g := id) (fun q hq => ?_), List.map_id]
   have hne : ¬ q.1 = k := fun e => hn.1 (by rw [← e]; exact List.mem_map.2 ⟨q, hq, rfl⟩)
   rw [decide_eq_false hne]; rfl
  show (bif decide (k = k) then (k, r) else (k, r0)) :: mput f k r = _
  rw [decide_eq_true rfl, this]; rfl
 | p :: f, j + 1, k, r0, r, hn, h => by
  rw [List.map_cons, List.nodup_cons] at hn
  simp at h
  have hne : ¬ p.1 = k := fun e => hn.1 (by rw [e]; exact List.mem_map.2 ⟨(k, r0), List.mem_of_getElem? h, rfl⟩)
  show (bif decide (p.1 = k) then (k, r) else p) :: mput f k r = _
  rw [decide_eq_false hne, mput_at r hn.2 h]; rfl
theorem mdel_at {T : Type} : ∀ {f : List (Str × T)} {j : Nat} {k : Str} {r0 : T}, (f.map (·.1)).Nodup → f[j]? = some (k, r0) → mdel f k = f.eraseIdx j
 | p :: f, 0, k, r0, hn, h => by
  simp at h; subst h
  rw [List.map_cons, List.nodup_cons] at hn
  have : f.filter (fun q => !decide (q.1 = k)) = f := List.filter_eq_self.2 fun q hq => by
   have hne : ¬ q.1 = k := fun e => hn.1 (by rw [← e]; exact List.mem_map.2 ⟨q, hq, rfl⟩)
   simp [hne]
  unfold mdel
  rw [List.filter_cons_of_neg (by simp), this]; rfl
 | p :: f, j + 1, k, r0, hn, h => by
  rw [List.map_cons, List.nodup_cons] at hn
  simp at h
  have hne : ¬ p.1 = k := fun e => hn.1 (by rw [e]; exact List.mem_map.2 ⟨(k, r0), List.mem_of_getElem? h, rfl⟩)
  unfold mdel
  rw [List.filter_cons_of_pos (by simp [hne])]
  show p :: mdel f k = _
  rw [mdel_at hn.2 h]; rfl
theorem mput_keys {T : Type} (m : List (Str × T)) (k : Str) (r : T) : (mput m k r).map (·.1) = m.map (·.1) := by
 unfold mput
 rw [List.map_map]
 refine List.map_congr_left fun p _ => ?_
 simp only [Function.comp]
 by_cases h : p.1 = k
 ·rw [decide_eq_true h]; exact h.symm
 ·rw [decide_eq_false h]; rfl
theorem mhas_some {T : Type} {m : List (Str × T)} {k : Str} {r : T} (h : mget m k = some r) : mhas m k = true := by unfold mhas; rw [h]; rfl
theorem mhas_none {T : Type} {m : List (Str × T)} {k : Str} (h : mget m k = none) : mhas m k = false := by unfold mhas; rw [h]; rfl
theorem MapIs.put {Z : Fz} {m : List (Str × Rp)} {es : List MapEntry} {ck j : Nat} {e : MapEntry} {k : Str} {r0 r : Rp} {v : Value} (h : MapIs Z m es ck) (he : es[j]? = some e) (hk : e.key = .string (B k)) (hm : mget m k = some r0) (hr : r.p Z v) :
  MapIs Z (mset m k r) (es.set j { e with key := .string (B k), val := v }) ck := by
 obtain ⟨h1, h2, h3, f, h4, h5⟩ := h
 obtain ⟨hl, ha⟩ := h5.at
 have hjl := (List.getElem?_eq_some_iff.1 he).1
 unfold mset
 rw [mhas_some hm, cond_true]
 obtain ⟨k', r', e1, e2, _⟩ := ha j e he
 rw [hk] at e2
 obtain rfl := strB_inj e2
 have hfn : (f.map (·.1)).Nodup := (h4.map (·.1)).nodup_iff.2 h1
 refine ⟨by rw [mput_keys]; exact h1, ?_, ?_, f.set j (k, r), ?_, Ali.of (by simp [hl]) fun i x hx => ?_⟩
 ·rw [List.map_set]
  have : (es.map (·.born)).set j e.born = es.map (·.born) := by
   apply List.ext_getElem?
   intro i
   rw [List.getElem?_set]
   split
   ·rename_i hij; subst hij
    simp [hjl, List.getElem?_eq_some_iff.1 he |>.2]
   ·rfl
  show ((es.map (·.born)).set j e.born).Nodup
  rw [this]; exact h2
 ·intro x hx
  rcases List.mem_or_eq_of_mem_set hx with hx | rfl
  ·exact h3 x hx
  ·exact h3 e (List.mem_of_getElem? he)
 ·have := perm_put h4 k r
  rwa [mput_at r hfn e1] at this
 ·rw [List.getElem?_set] at hx ⊢
  split at hx
  ·rename_i hij; subst hij
   cases hx
   exact ⟨k, r, by rw [if_pos rfl, if_pos (by rw [hl]; exact hjl)], rfl, hr⟩
  ·rename_i hij
   rw [if_neg hij]; exact ha i x hx
theorem MapIs.ins {Z : Fz} {m : List (Str × Rp)} {es : List MapEntry} {ck : Nat} {k : Str} {r : Rp} {v : Value} (h : MapIs Z m es ck) (hm : mget m k = none) (hk : ∀ p ∈ m, p.1 ≠ k) (hr : r.p Z v) :
  MapIs Z (mset m k r) (es ++ [{ key := .string (B k), val := v, born := ck }]) (ck + 1) := by
 obtain ⟨h1, h2, h3, f, h4, h5⟩ := h
 unfold mset
 rw [mhas_none hm, cond_false]
 have hp := mins_perm k r m
 refine ⟨?_, ?_, ?_, f ++ [(k, r)], ?_, Ali.snoc rfl hr h5⟩
 ·rw [(hp.map (·.1)).nodup_iff, List.map_cons, List.nodup_cons]
  exact ⟨fun hx => by obtain ⟨p, hp, e⟩ := List.mem_map.1 hx; exact hk p hp e, h1⟩
 ·rw [List.map_append, List.nodup_append]
  refine ⟨h2, by simp, fun a ha b hb e => ?_⟩
  simp at hb; subst hb
  obtain ⟨x, hx, e'⟩ := List.mem_map.1 ha
  have := h3 x hx
  omega
 ·intro x hx
  rcases List.mem_append.1 hx with hx | hx
  ·have := h3 x hx; omega
  ·simp at hx; subst hx; exact Nat.lt_succ_self _
 ·exact (List.perm_append_comm (l₁ := f) (l₂ := [(k, r)])).trans ((h4.cons (k, r)).trans hp.symm)
theorem MapIs.del {Z : Fz} {m : List (Str × Rp)} {es : List MapEntry} {ck j : Nat} {e : MapEntry} {k : Str} (h : MapIs Z m es ck) (he : es[j]? = some e) (hk : e.key = .string (B k)) : MapIs Z (mdel m k) (es.eraseIdx j) ck := by
 obtain ⟨h1, h2, h3, f, h4, h5⟩ := h
 obtain ⟨hl, ha⟩ := h5.at
 obtain ⟨k', r', e1, e2, _⟩ := ha j e he
 rw [hk] at e2
 obtain rfl := strB_inj e2
 have hfn : (f.map (·.1)).Nodup := (h4.map (·.1)).nodup_iff.2 h1
 have hs := List.eraseIdx_sublist es j
 refine ⟨h1.sublist ((List.filter_sublist ..).map _), h2.sublist (hs.map _), fun x hx => h3 x (hs.subset hx), f.eraseIdx j, ?_, Ali.of (by rw [List.length_eraseIdx, List.length_eraseIdx, hl]) fun i x hx => ?_⟩
 ·rw [← mdel_at hfn e1]; exact h4.filter _
 ·rw [List.getElem?_eraseIdx] at hx ⊢
  split at hx
  ·rename_i hij; rw [if_pos hij]; exact ha i x hx
  ·rename_i hij; rw [if_neg hij]; exact ha (i + 1) x hx
theorem mdel_none {m : List (Str × Rp)} {k : Str} (hk : ∀ p ∈ m, p.1 ≠ k) : mdel m k = m := List.filter_eq_self.2 fun p hp => by simp [hk p hp]
theorem St.mapset {Z : Fz} {w : World} (h : St c H Z w) {m m' : List (Str × Rp)} (hi : H[i]? = some (.map b m)) {es es' : Array MapEntry} {ck ck' : Nat} (h1 : w.heap[b]? = some (.map es ck)) (h2 : MapIs Z m' es'.toList ck') :
  St c (H.set i (.map b m')) Z { w with heap := w.heap.setIfInBounds b (.map es' ck') } := by
 obtain ⟨q1, q2⟩ := MapKept.heap_set (o' := .map es' ck') h1
 exact h.set hi rfl rfl rfl (by simp) (fun k _ hk => q2 k (by simpa [Ent.foot] using hk)) ⟨es', ck', q1, h2⟩ (by simp [Ent.foot])
theorem sameBits_str (s : ByteArray) : Instr.sameBits 10000 (.string s) (.string s) = true := by
 show (s == s) = true
 exact (MapKept.bytes_beq s s).2 rfl |> fun h => by simpa using h
theorem u_mset {r : Rp} {m : List (Str × Rp)} (ht : P.underlying t = some (.map kt et)) (hk : P.underlying kt = some .string) (hx : ev l x = some (rv (.map (some b)))) (hi : H[i]? = some (.map b m)) (hy : ev l y = some (rS k)) (hu : ev l u = some r) {H' : List Ent} (hH : H.set i (.map b (mset m k r)) = H') (h : WL P n c ops Q rest l H') :
  WL P n c ops Q ({ dst := none, op := .mapUpdate t x y u, type := ty, pos := pos, after := af, guard := none } :: rest) l H :=
 wl_u fun a w Z ha hw => by
  obtain ⟨es, ck, h1, h2⟩ := hw.ent hi
  have hv := ha.ev hu
  subst hH
  rcases find_is h2 k with ⟨q1, q2, q3⟩ | ⟨j, e, r0, q1, q2, q3, q4, _⟩
  ·refine ⟨_, _, ?_, hw.mapset hi h1 (es' := es.push { key := .string (B k), val := a.eval u, born := ck }) (by simpa using h2.ins q2 q3 hv), h⟩
   simp [execOp, ha.eval hx, ha.eval hy, Instr.mapUpdate, run_underlying ht, MapKept.run_getObj_map h1, MapKept.run_checkKey hk (isKey_str _), MapKept.run_findKey hk q1, MapKept.run_setObj_map _ h1]
  ·have hje : es[j]? = some e := by simpa using q2
   refine ⟨_, _, ?_, hw.mapset hi h1 (es' := es.modify j fun e => { e with key := .string (B k), val := a.eval u }) (ck' := ck) (by
    have := h2.put q2 q3 q4 hv
    have e1 : (es.modify j fun e => { e with key := .string (B k), val := a.eval u }).toList = es.toList.set j { e with key := .string (B k), val := a.eval u } := by
     rw [Array.toList_modify]
     rw [List.modify_eq_set, q2]; rfl
    rw [e1]; exact this), h⟩
   have hkey : ((es[j]?).map (·.key)).getD (.string (B k)) = .string (B k) := by rw [hje]; exact q3
   simp [execOp, ha.eval hx, ha.eval hy, Instr.mapUpdate, run_underlying ht, MapKept.run_getObj_map h1, MapKept.run_checkKey hk (isKey_str _), MapKept.run_findKey hk q1, MapKept.run_setObj_map _ h1, hkey, Instr.keyThatStays, sameBits_str]
theorem wl_wu {op : Op} {ty : TypeId} {pos : String} {af : Array Edge}
  (hr : ∀ a w Z, Agr n l a Z → St c H Z w → ∃ v w' H', (execOp a.eval { dst := none, op := op, type := ty, pos := pos, after := af, guard := none }).run P w = .ok (.value v) w' ∧ St c H' Z w' ∧ WL P n c ops Q rest l H') :
  WL P n c ops Q ({ dst := none, op := op, type := ty, pos := pos, after := af, guard := none } :: rest) l H := fun a w Z ha hw =>
 wpList_plain rfl fun K hK => by
  obtain ⟨v, w', H', h1, h2, h3⟩ := hr a w Z ha hw
  unfold Oper.wp
  rw [h1]
  exact hK _ _ (h3 _ w' Z (ha.put_none _) h2)
theorem u_mdel {m : List (Str × Rp)} (ht : P.underlying t = some (.map kt et)) (hk : P.underlying kt = some .string) {kt' : TypeId} (hx : ev l x = some (rv (.map (some b)))) (hi : H[i]? = some (.map b m)) (hy : ev l y = some (rS k)) {H' : List Ent} (hH : H.set i (.map b (mdel m k)) = H') (h : WL P n c ops Q rest l H') :
  WL P n c ops Q ({ dst := none, op := .call { callee := .builtin .delete, args := #[x, y], argTypes := #[t, kt'] }, type := ty, pos := pos, after := af, guard := none } :: rest) l H :=
 wl_wu (fun a w Z ha hw => by
  obtain ⟨es, ck, h1, h2⟩ := hw.ent hi
  subst hH
  rcases find_is h2 k with ⟨q1, q2, q3⟩ | ⟨j, e, r0, q1, q2, q3, q4, _⟩
  ·refine ⟨.tuple #[], _, _, ?_, hw.mapset hi h1 (es' := es) (ck' := ck) (by rw [mdel_none q3]; exact h2), h⟩
   simp [execOp, resolve, invoke, builtin, ha.eval hx, ha.eval hy, Builtin.delete_, run_underlying ht, MapKept.run_getObj_map h1, MapKept.run_checkKey hk (isKey_str _), MapKept.run_findKey hk q1, MapKept.run_setObj_map _ h1]
  ·refine ⟨.tuple #[], _, _, ?_, hw.mapset hi h1 (es' := es.eraseIdxIfInBounds j) (ck' := ck) (by
    have e1 : (es.eraseIdxIfInBounds j).toList = es.toList.eraseIdx j := by simp
    rw [e1]; exact h2.del q2 q3), h⟩
   simp [execOp, resolve, invoke, builtin, ha.eval hx, ha.eval hy, Builtin.delete_, run_underlying ht, MapKept.run_getObj_map h1, MapKept.run_checkKey hk (isKey_str _), MapKept.run_findKey hk q1, MapKept.run_setObj_map _ h1])
theorem u_mclear {m : List (Str × Rp)} (ht : P.underlying t = some (.map kt et)) (hx : ev l x = some (rv (.map (some b)))) (hi : H[i]? = some (.map b m)) {H' : List Ent} (hH : H.set i (.map b []) = H') (h : WL P n c ops Q rest l H') :
  WL P n c ops Q ({ dst := none, op := .call { callee := .builtin .clear, args := #[x], argTypes := #[t] }, type := ty, pos := pos, after := af, guard := none } :: rest) l H :=
 wl_wu (fun a w Z ha hw => by
  obtain ⟨es, ck, h1, h2⟩ := hw.ent hi
  subst hH
  refine ⟨.tuple #[], _, _, ?_, hw.mapset hi h1 (es' := #[]) (ck' := ck) ⟨by simp, by simp, by simp, [], List.Perm.refl _, trivial⟩, h⟩
  simp [execOp, resolve, invoke, builtin, ha.eval hx, Builtin.clear_, run_underlying ht, MapKept.run_getObj_map h1, MapKept.run_setObj_map _ h1])
theorem u_msete {v : T} (ht : P.underlying t = some (.map kt et)) (hk : P.underlying kt = some .string) (hx : ev l x = some (rv (.map (some b)))) (hi : H[i]? = some (.map b (menc enc xs))) (hy : ev l y = some (rS k)) (hu : ev l u = some (enc v)) {H' : List Ent} (hH : H.set i (.map b (menc enc (mset xs k v))) = H') (h : WL P n c ops Q rest l H') :
  WL P n c ops Q ({ dst := none, op := .mapUpdate t x y u, type := ty, pos := pos, after := af, guard := none } :: rest) l H := u_mset ht hk hx hi hy hu (by rw [← mset_enc]; exact hH) h
theorem u_mdele (ht : P.underlying t = some (.map kt et)) (hk : P.underlying kt = some .string) {kt' : TypeId} (hx : ev l x = some (rv (.map (some b)))) (hi : H[i]? = some (.map b (menc enc xs))) (hy : ev l y = some (rS k)) {H' : List Ent} (hH : H.set i (.map b (menc enc (mdel xs k))) = H') (h : WL P n c ops Q rest l H') :
  WL P n c ops Q ({ dst := none, op := .call { callee := .builtin .delete, args := #[x, y], argTypes := #[t, kt'] }, type := ty, pos := pos, after := af, guard := none } :: rest) l H := u_mdel ht hk hx hi hy (by rw [← mdel_enc]; exact hH) h
end
end Go.Proofs.YtjfnokmpfekniaaGreatDoor.Q

/-
 The keys of a map, in order: what the library's contracts on maps.Keys and slices.Sorted ask, and give, in the words of the calculus. Plain theorems over any program; no condition.
-/
namespace Go.Proofs.YtjfnokmpfekniaaGreatDoor
open Go
def keysOk {T : Type} (xs : List (Str × T)) : Bool := decide (xs.length * 16 ≤ 140737488355328) && xs.all fun p => okS p.1
def mkeys {T : Type} (xs : List (Str × T)) : List Str := (xs.map (·.1)).mergeSort fun x y => decide (x ≤ y)
end Go.Proofs.YtjfnokmpfekniaaGreatDoor
namespace Go.Proofs.YtjfnokmpfekniaaGreatDoor.Q
open Go Go.RowKit Go.ChangeMaps
set_option linter.unusedVariables false
set_option linter.unusedSimpArgs false
def RU : Value → Option (DataW Unit × List MemPlace) := fun _ => some (.nil, [])
theorem rg_key {P : Program} {k : TypeId} (hkt : P.underlying k = some .string) {e : MapEntry} {s : Str} (he : e.key = .string (B s)) (hs : s.length ≤ maxLen) : WideElems.rd P k RU e = some (.string s, .nil) := by
 obtain ⟨key, val, born⟩ := e
 simp only at he
 subst he
 exact WideElems.rd_mk (yv := (.nil, [])) (by simp [keyOf, hkt, mapKey, B]; exact hs) rfl
theorem Ali.rgs {P : Program} {k : TypeId} (hkt : P.underlying k = some .string) {Z : Fz} : ∀ {f : List (Str × Rp)} {es : List MapEntry}, Ali Z f es → (∀ p ∈ f, p.1.length ≤ maxLen) → es.map (WideElems.rg P k RU) = f.map (fun p => (Lit.string p.1, (.nil : DataW Unit))) ∧ (∀ x ∈ es, ∃ y, WideElems.rd P k RU x = some y) ∧ es.map (·.key) = f.map fun p => Value.string (B p.1)
 | [], [], _, _ => ⟨rfl, (fun _ h => by cases h), rfl⟩
 | p :: f, e :: es, ⟨⟨h1, _⟩, h2⟩, hk => by
  obtain ⟨a1, a2, a3⟩ := Ali.rgs hkt h2 fun q hq => hk q (List.mem_cons_of_mem _ hq)
  have hr := rg_key hkt h1 (hk p (List.mem_cons_self ..))
  refine ⟨?_, fun x hx => ?_, ?_⟩
  ·rw [List.map_cons, List.map_cons, a1, WideElems.rg_of hr]
  ·rcases List.mem_cons.1 hx with rfl | hx
   ·exact ⟨_, hr⟩
   ·exact a2 x hx
  ·rw [List.map_cons, List.map_cons, a3, h1]
theorem own_map {P : Program} {k : TypeId} (hkt : P.underlying k = some .string) {w : World} {Z : Fz} {b : Nat} {m : List (Str × Rp)} {es : Array MapEntry} {ck : Nat} (hb : w.heap[b]? = some (.map es ck)) (hm : MapIs Z m es.toList ck) (hk : ∀ p ∈ m, p.1.length ≤ maxLen) (hsz : m.length ≤ maxLen) :
  ∃ D0 : DataW Unit, w.ownsMap P k RU b es.size D0 ∧ (strKeys D0).Perm (m.map (·.1)) ∧ Maps.size D0 = m.length := by
 obtain ⟨h1, h2, h3, f, h4, h5⟩ := hm
 obtain ⟨a1, a2, a3⟩ := Ali.rgs hkt h5 fun p hp => hk p (h4.subset hp)
 have hlen : es.size = m.length := by
  have e := congrArg List.length a3
  simp only [List.length_map, Array.length_toList] at e
  rw [e]; exact h4.length_eq
 have hkey : es.toList.Pairwise (fun x y => x.key ≠ y.key) := by
  have e : (es.toList.map (·.key)).Nodup := by
   rw [a3]
   have hf : (f.map (·.1)).Nodup := (h4.map _).nodup_iff.2 h1
   have : f.map (fun p => Value.string (B p.1)) = (f.map (·.1)).map fun s => Value.string (B s) := by rw [List.map_map]; rfl
   rw [this]
   refine List.Pairwise.map _ (fun x y hxy e => hxy ?_) hf
   simp [B] at e
   exact e
  exact List.pairwise_map.1 e
 refine ⟨.map ((es.toList.map (WideElems.rg P k RU)).foldr DataW.insert []), ⟨es, ck, hb, ⟨by rw [hlen]; exact hsz, (MapKept.stamped_iff es ck).2 ⟨h3, h2, hkey⟩, a2⟩, Nat.le_refl _, rfl⟩, ?_, ?_⟩
 ·show (((es.toList.map (WideElems.rg P k RU)).foldr DataW.insert []).map fun p => strOf p.1).Perm _
  rw [a1]
  refine ((WideShapes.sorted_perm _).map _).trans ?_
  rw [List.map_map]
  exact h4.map _
 ·show ((es.toList.map (WideElems.rg P k RU)).foldr DataW.insert []).length = _
  rw [length_sorted, List.length_map, Array.length_toList, hlen]
theorem ownsRow_le {w : World} {a b : Nat} {e : TypeId} {sz n : Nat} {v : Value} {us : List Value} (h : w.ownsRow a e sz v n us) (hb : b ≤ a) : w.ownsRow b e sz v n us := by
 refine ⟨h.1, ?_⟩
 rcases h.2 with hn | ⟨g, cap, cur, rfl, hg, rest⟩
 ·exact .inl hn
 ·exact .inr ⟨g, cap, cur, rfl, Nat.le_trans hb hg, rest⟩
theorem ownsRow_new {w : World} {a : Nat} {e : TypeId} {sz n : Nat} {v : Value} {us : List Value} (h : w.ownsRow a e sz v n us) : ∀ k ∈ v.ownBlock.toList, a ≤ k := by
 rcases h.2 with ⟨rfl, _⟩ | ⟨g, cap, cur, rfl, hg, rest⟩
 ·intro k hk; simp [Value.ownBlock] at hk
 ·intro k hk; simp [Value.ownBlock] at hk; omega
theorem St.newrow {c : Cx} {H : List Ent} {Z : Fz} {w w' : World} (h : St c H Z w) (hb : Below w.heap.size w w') {v : Value} {e : TypeId} {ys : List Str} (hr : w'.ownsRow w.heap.size e 1 v ys.length (ys.map Go.Proofs.encStr)) : St c (.row v e 1 (ys.map eS) :: H) Z w' := by
 refine h.add hb.os hb.tape hb.output hb.size (fun k hk => hb.block k hk) ⟨fun c hc => ?_, ys.map Go.Proofs.encStr, ?_, ?_⟩ (fun k hk => ownsRow_new hr k hk)
 ·obtain ⟨y, _, rfl⟩ := List.mem_map.1 hc; rfl
 ·rw [List.length_map]; exact ownsRow_le hr (Nat.zero_le _)
 ·clear hr
  induction ys with
  | nil => exact trivial
  | cons y r ih => exact ⟨by show Go.Proofs.encStr y = Value.string (B y); rfl, ih⟩
end Go.Proofs.YtjfnokmpfekniaaGreatDoor.Q

/-
 What functions compute, with checks: plain definitions, printed by a small program of ours (gq.py). No program in sight.
-/
namespace Go.Proofs.YtjfnokmpfekniaaGreatDoor
open Go
set_option linter.unusedVariables false
structure TApiChange where
 fKey : Str
 fDelete : Bool
 fValue : (List TApiCell)
 fIfVersion : Int
 deriving DecidableEq, Inhabited
structure TApiItem where
 fKey : Str
 fValue : (List TApiCell)
 fVersion : Int
 deriving DecidableEq, Inhabited
structure TKvStore where
 fItems : (List (Str × TApiItem))
 fChanged : (List (Str × TApiItem))
 deriving DecidableEq, Inhabited
def cloneN (ys : (List TApiCell)) : Option ((List TApiCell)) :=
 chk (inA 40 (([] : List TApiCell).length + ys.length)) <| some (([] : List TApiCell) ++ ys)

def i5Small (c : Int) : Option (Bool) :=
 some ((decide (97 ≤ c)) && (decide (c ≤ 122)))

def i5Digit (c : Int) : Option (Bool) :=
 some ((decide (48 ≤ c)) && (decide (c ≤ 57)))

def i5Part_j1 (x49 : Bool) : Option (Bool) :=
 some x49

def i5Part (c : Int) : Option (Bool) :=
 obn (i5Small c) fun r50 => cnd (r50) (i5Part_j1 true) (cnd (decide (65 ≤ c)) (cnd (decide (c ≤ 90)) (i5Part_j1 true) (obn (i5Digit c) fun r61 => cnd (r61) (i5Part_j1 true) (cnd (decide (c = 45)) (i5Part_j1 true) (cnd (decide (c = 95)) (i5Part_j1 true) (cnd (decide (c = 46)) (i5Part_j1 true) (cnd (decide (c = 58)) (i5Part_j1 true) (i5Part_j1 (decide (c = 47))))))))) (obn (i5Digit c) fun r80 => cnd (r80) (i5Part_j1 true) (cnd (decide (c = 45)) (i5Part_j1 true) (cnd (decide (c = 95)) (i5Part_j1 true) (cnd (decide (c = 46)) (i5Part_j1 true) (cnd (decide (c = 58)) (i5Part_j1 true) (i5Part_j1 (decide (c = 47)))))))))

def i5ID_b1 (s : Str) (x30 : Int) : Option (Stp (Int) (Out (Bool) (Unit))) :=
 cnd (decide (x30 < (s.length : Int))) (chk (inR x30 (s.length : Int)) <| obn (i5Part (bat s x30)) fun r57 => cnd (!r57) (some (.out (.ret false))) (chk (inK .i64 (x30 + 1)) <| some (.next (x30 + 1)))) (some (.out (.go ())))

def i5ID_k1  : Option (Bool) :=
 some true

def i5ID (F : Nat) (s : Str) : Option (Bool) :=
 cnd (((decide ((s.length : Int) < 1)) || (decide (64 < (s.length : Int))))) (some false) (obn (lop (fun σ => i5ID_b1 s σ) F 0) (oute fun ν => i5ID_k1 ))

def kCheck (F : Nat) (c : TApiChange) : Option (Int) :=
 cnd (!(idS c.fKey)) (some 4) (cnd (((decide (c.fIfVersion < (-1))) || (decide (1000000000000 < c.fIfVersion)))) (some 2) (cnd ((c.fDelete && (decide (0 < (c.fValue.length : Int))))) (some 7) (cnd (c.fDelete) (some 0) (obn (vCheck F c.fValue) fun r16 => some r16))))

def kValid_b1 (F : Nat) (l : (List TApiChange)) (x31 : Int) : Option (Stp (Int) (Out (Int) (Unit))) :=
 cnd (decide (x31 < (l.length : Int))) (chk (inR x31 (l.length : Int)) <| obn (kCheck F (at' l x31)) fun r60 => cnd (!decide (r60 = 0)) (some (.out (.ret r60))) (chk (inK .i64 (x31 + 1)) <| some (.next (x31 + 1)))) (some (.out (.go ())))

def kValid_k1  : Option (Int) :=
 some 0

def kValid (F : Nat) (l : (List TApiChange)) : Option (Int) :=
 cnd (decide (256 < (l.length : Int))) (some 3) (obn (lop (fun σ => kValid_b1 F l σ) F 0) (oute fun ν => kValid_k1 ))

def kNew  : Option (TKvStore) :=
 some (TKvStore.mk ([] : List (Str × TApiItem)) ([] : List (Str × TApiItem)))

def kMade (q : TKvStore) : Option (Bool × TKvStore) :=
 some (true, q)

def kNow (q : TKvStore) (key : Str) : Option (TApiItem × TKvStore) :=
 cnd (mhas q.fChanged key) (some ((mval q.fChanged key (TApiItem.mk ([] : Str) ([] : (List TApiCell)) 0)), q)) (some ((mval q.fItems key (TApiItem.mk ([] : Str) ([] : (List TApiCell)) 0)), q))

def kChange_j1 (c : TApiChange) (r2 : TApiItem × TKvStore) (x30 : Int) : Option (Int × Int × TKvStore) :=
 obn (cloneN c.fValue) fun r56 => chk (inK .i64 (r2.1.fVersion + 1)) <| some (x30, 0, (TKvStore.mk r2.2.fItems (mset r2.2.fChanged c.fKey (TApiItem.mk c.fKey r56 (r2.1.fVersion + 1)))))

def kChange (q : TKvStore) (c : TApiChange) (size : Int) : Option (Int × Int × TKvStore) :=
 obn (kNow q c.fKey) fun r2 => cnd (((decide (0 ≤ c.fIfVersion)) && (!decide (c.fIfVersion = r2.1.fVersion)))) (some (0, 19, r2.2)) (cnd (c.fDelete) (cnd (decide (0 < r2.1.fVersion)) (chk (inK .i64 (size - 1)) <| some (size - 1, 0, (TKvStore.mk r2.2.fItems (mset r2.2.fChanged c.fKey (TApiItem.mk ([] : Str) ([] : List TApiCell) 0))))) (some (size, 0, (TKvStore.mk r2.2.fItems (mset r2.2.fChanged c.fKey (TApiItem.mk ([] : Str) ([] : List TApiCell) 0)))))) (cnd (((decide (r2.1.fVersion = 0)) && (decide (256 ≤ size)))) (some (0, 3, r2.2)) (cnd (decide (1000000000000 ≤ r2.1.fVersion)) (some (0, 8, r2.2)) (cnd (decide (r2.1.fVersion = 0)) (chk (inK .i64 (size + 1)) <| kChange_j1 c r2 (size + 1)) (kChange_j1 c r2 size)))))

def kApply_b2 (x100 : Str) (x99 : TApiItem) (x116 : (List (Str × TApiItem))) : Option (Stp ((List (Str × TApiItem))) (Out (Int × TKvStore) ((List (Str × TApiItem))))) :=
 cnd (decide (x99.fVersion = 0)) (some (.next (mdel x116 x100))) (some (.next (mset x116 x100 x99)))

def kApply_k2 (x62 : (List (Str × TApiItem))) (x123 : (List (Str × TApiItem))) : Option (Int × TKvStore) :=
 some (0, (TKvStore.mk x123 x62))

def kApply_b1 (l : (List TApiChange)) (x43 : Int) (x44 : Int) (x45 : (List (Str × TApiItem))) (x46 : (List (Str × TApiItem))) : Option (Stp (Int × Int × (List (Str × TApiItem)) × (List (Str × TApiItem))) (Out (Int × TKvStore) ((List (Str × TApiItem)) × (List (Str × TApiItem))))) :=
 cnd (decide (x44 < (l.length : Int))) (chk (inR x44 (l.length : Int)) <| obn (kChange (TKvStore.mk x45 x46) (at' l x44) x43) fun r77 => cnd (!decide (r77.2.1 = 0)) (some (.out (.ret (r77.2.1, r77.2.2)))) (chk (inK .i64 (x44 + 1)) <| some (.next (r77.1, x44 + 1, r77.2.2.fItems, r77.2.2.fChanged)))) (some (.out (.go (x45, x46))))

def kApply_k1 (x61 : (List (Str × TApiItem))) (x62 : (List (Str × TApiItem))) : Option (Int × TKvStore) :=
 mobn x62 fun ord => obn (lfe (fun p τ => kApply_b2 p.1 p.2 τ) ord x61) (oute fun ν => kApply_k2 x62 ν)

def kApply (F : Nat) (q : TKvStore) (l : (List TApiChange)) : Option (Int × TKvStore) :=
 obn (kMade q) fun r1 => cnd (!r1.1) (some (10, r1.2)) (obn (kValid F l) fun r7 => cnd (!decide (r7 = 0)) (some (r7, r1.2)) (obn (lop (fun σ => kApply_b1 l σ.1 σ.2.1 σ.2.2.1 σ.2.2.2) F ((r1.2.fItems.length : Int), 0, r1.2.fItems, ([] : List (Str × TApiItem)))) (oute fun ν => kApply_k1 ν.1 ν.2)))

def kOwn (x : TApiItem) : Option (TApiItem) :=
 obn (cloneN x.fValue) fun r3 => some (TApiItem.mk x.fKey r3 x.fVersion)

def kGet (q : TKvStore) (key : Str) : Option (TApiItem × Bool × TKvStore) :=
 obn (kMade q) fun r2 => cnd (!r2.1) (some ((TApiItem.mk ([] : Str) ([] : List TApiCell) 0), false, r2.2)) (obn (kOwn (mval r2.2.fItems key (TApiItem.mk ([] : Str) ([] : (List TApiCell)) 0))) fun r9 => some (r9, mhas r2.2.fItems key, r2.2))

def kLen (q : TKvStore) : Option (Int × TKvStore) :=
 obn (kMade q) fun r1 => cnd (!r1.1) (some (0, r1.2)) (some ((r1.2.fItems.length : Int), r1.2))

def kScan_j2 (x114 : Int) (x204 : (List TApiItem)) (x206 : Bool) : Option (Stp ((List TApiItem) × Int) (Out ((List TApiItem) × TKvStore) ((List TApiItem)))) :=
 chk (inK .i64 (x114 + 1)) <| some (.next (x204, x114 + 1))

def kScan_b1 (pre : Str) (r1 : Bool × TKvStore) (x112 : (List TApiItem)) (x114 : Int) : Option (Stp ((List TApiItem) × Int) (Out ((List TApiItem) × TKvStore) ((List TApiItem)))) :=
 cnd (decide (x114 < ((mkeys r1.2.fItems).length : Int))) (chk (inR x114 ((mkeys r1.2.fItems).length : Int)) <| obn (hasPrefix (at' (mkeys r1.2.fItems) x114) pre) fun r209 => cnd (r209) (obn (kOwn (mval r1.2.fItems (at' (mkeys r1.2.fItems) x114) (TApiItem.mk ([] : Str) ([] : (List TApiCell)) 0))) fun r214 => chk (inA 48 (x112.length + ([r214] : List TApiItem).length)) <| kScan_j2 x114 (x112 ++ ([r214] : List TApiItem)) r209) (kScan_j2 x114 x112 r209)) (some (.out (.go x112)))

def kScan_k1 (r1 : Bool × TKvStore) (x165 : (List TApiItem)) : Option ((List TApiItem) × TKvStore) :=
 some (x165, r1.2)

def kScan (F : Nat) (q : TKvStore) (pre : Str) : Option ((List TApiItem) × TKvStore) :=
 obn (kMade q) fun r1 => cnd (!r1.1) (some (([] : List TApiItem), r1.2)) (chk (keysOk r1.2.fItems) <| obn (lop (fun σ => kScan_b1 pre r1 σ.1 σ.2) F (([] : List TApiItem), 0)) (oute fun ν => kScan_k1 r1 ν))

end Go.Proofs.YtjfnokmpfekniaaGreatDoor

/-
 Rounds over the entries of a map, in any order. Plain theorems over any program; no condition.
-/
namespace Go.Proofs.YtjfnokmpfekniaaGreatDoor.Q
open Go Go.RowKit
set_option linter.unusedVariables false
set_option linter.unusedSimpArgs false
theorem filter_erase {q : MapEntry → Bool} : ∀ {l : List MapEntry} {j : Nat} {e : MapEntry}, (l.map (·.born)).Nodup → l[j]? = some e → l.filter (fun x => !(x.born == e.born)) = l.eraseIdx j
 | x :: l, 0, e, hn, h => by
  simp at h; subst h
  rw [List.map_cons, List.nodup_cons] at hn
  rw [List.filter_cons_of_neg (by simp), List.filter_eq_self.2 fun y hy => ?_]; rfl
  have : y.born ≠ x.born := fun e => hn.1 (by rw [← e]; exact List.mem_map.2 ⟨y, hy, rfl⟩)
  simp [this]
 | x :: l, j + 1, e, hn, h => by
  rw [List.map_cons, List.nodup_cons] at hn
  simp at h
  have hne : x.born ≠ e.born := fun e' => hn.1 (by rw [e']; exact List.mem_map.2 ⟨e, List.mem_of_getElem? h, rfl⟩)
  rw [List.filter_cons_of_pos (by simp [hne]), filter_erase (q := q) hn.2 h]; rfl
theorem Ali.erase {Z : Fz} : ∀ {f : List (List UInt8 × Rp)} {es : List MapEntry} (j : Nat), Ali Z f es → Ali Z (f.eraseIdx j) (es.eraseIdx j)
 | [], [], j, _ => by simp [Ali]
 | p :: f, e :: es, 0, ⟨_, h⟩ => h
 | p :: f, e :: es, j + 1, ⟨h, h3⟩ => ⟨h, Ali.erase j h3⟩
theorem perm_at {α : Type} : ∀ {l : List α} {j : Nat} {a : α}, l[j]? = some a → l.Perm (a :: l.eraseIdx j)
 | x :: l, 0, a, h => by simp at h; subst h; exact List.Perm.refl _
 | x :: l, j + 1, a, h => by
  simp at h
  exact ((perm_at h).cons x).trans (List.Perm.swap a x _)
theorem perm_enc {T : Type} {enc : T → Rp} {ys : List (Str × T)} {f : List (Str × Rp)} {j : Nat} {k : Str} {r : Rp} (h : f.Perm (menc enc ys)) (hj : f[j]? = some (k, r)) : ∃ (p : Str × T) (ys' : List (Str × T)), ys.Perm (p :: ys') ∧ p.1 = k ∧ enc p.2 = r ∧ (f.eraseIdx j).Perm (menc enc ys') := by
 have hm : (k, r) ∈ menc enc ys := h.subset (List.mem_of_getElem? hj)
 obtain ⟨p, hp, e⟩ := List.mem_map.1 hm
 simp only [Prod.mk.injEq] at e
 obtain ⟨a, b, rfl⟩ := List.append_of_mem hp
 refine ⟨p, a ++ b, List.perm_middle, e.1, e.2, ?_⟩
 have h1 : f.Perm ((k, r) :: f.eraseIdx j) := by
  exact perm_at hj
 have h2 : (menc enc (a ++ p :: b)).Perm ((k, r) :: menc enc (a ++ b)) := by
  have : (menc enc (a ++ p :: b)).Perm (menc enc (p :: (a ++ b))) := List.perm_middle.map _
  refine this.trans ?_
  show ((p.1, enc p.2) :: menc enc (a ++ b)).Perm _
  rw [e.1, e.2]
 exact ((h1.symm.trans h).trans h2).cons_inv
section
variable {P : Program} {n : Nat} {c : Cx} {ops : Array Oper} {Q : Exit → Act → World → Prop} {rest : List Oper} {l : Fr} {H : List Ent} {d : Nat} {ty t kt et rty : TypeId} {pos : String} {af : Array Edge} {x y u : Operand} {K : Act → World → Prop} {cx : Code}
variable {T : Type} {enc : T → Rp} {xs ys : List (Str × T)} {i b it : Nat} {m lf : List (List UInt8 × Rp)} {cur : Option (List UInt8 × Rp)} {k : Str} {r : Rp}
theorem w_range (ht : P.underlying t = some (.map kt et)) (hx : ev l x = some (rv (.map (some b)))) (hi : H[i]? = some (.map b m)) (hn : Nat.blt d n = true) (h : ∀ it, WL P n c ops Q rest ((d, rv (.pointer (some ⟨it, 0, none⟩))) :: l) (H.set i (.mit b it m m none))) :
  WL P n c ops Q ({ dst := some d, op := .range t x, type := ty, pos := pos, after := af, guard := none } :: rest) l H :=
 wl_w (fun a w Z ha hw => by
  obtain ⟨es, ck, h1, h2⟩ := hw.ent hi
  have hb : b < w.heap.size := (Array.getElem?_eq_some_iff.1 h1).1
  have hf : es.toList.filter (fun e => !(#[] : Array Nat).contains e.born) = es.toList := List.filter_eq_self.2 fun _ _ => by simp
  obtain ⟨f, h4, h5⟩ := h2.2.2.2
  refine ⟨.pointer (some ⟨w.heap.size, 0, none⟩), w.alloc (.mapIter (some b) ck #[] ck), _, _, Z, ?_, Fz.le.refl _, rfl, hw.set hi rfl rfl rfl (by simp) (fun k hk _ => Below.heap_alloc w _ k hk) ?_ ?_, h w.heap.size⟩
  ·simp [execOp, ha.eval hx, run_range_map w t kt et b es ck ht h1]
  ·exact ⟨es, ck, #[], ck, ck, (Below.heap_alloc w _ b hb).trans h1, by simpa using heap_alloc_new w _, h2, h2.2.2.1, Nat.le_refl _, Nat.le_refl _, Nat.ne_of_lt hb, ⟨f, h4, by rw [hf]; exact h5⟩, trivial⟩
  ·intro k hk
   simp only [Ent.foot, List.mem_cons, List.not_mem_nil, or_false] at hk
   rcases hk with rfl | rfl
   ·exact .inl (by simp [Ent.foot])
   ·exact .inr (Nat.le_refl _)) hn
theorem w_next (hx : ev l x = some (rv (.pointer (some ⟨it, 0, none⟩)))) (hi : H[i]? = some (.mit b it m (menc enc ys) cur)) (hn : Nat.blt d n = true)
  (h0 : ys = [] → WL P n c ops Q rest ((d, rTup [rB false]) :: l) H)
  (h1 : ∀ p ys', ys.Perm (p :: ys') → WL P n c ops Q rest ((d, rTup [rB true, rS p.1, enc p.2]) :: l) (H.set i (.mit b it m (menc enc ys') (some (p.1, enc p.2))))) :
  WL P n c ops Q ({ dst := some d, op := .next x false, type := ty, pos := pos, after := af, guard := none } :: rest) l H :=
 wl_w (fun a w Z ha hw => by
  obtain ⟨es, ck, seen, since, c0, q1, q2, q3, q4, q5, q6, q7, ⟨f, q8, q9⟩, _⟩ := hw.ent hi
  have hlf : (leftOf es seen).toList = es.toList.filter fun e => !seen.contains e.born := by simp [leftOf]
  rcases run_next_at (P := P) w ty it b since c0 seen es ck q2 q1 q4 q5 with ⟨r1, r2⟩ | ⟨e, r1, w1, r2, r3⟩
  ·have he : es.toList.filter (fun e => !seen.contains e.born) = [] := by rw [← hlf]; exact List.eq_nil_of_length_eq_zero (by simpa using r1)
   rw [he] at q9
   have hf : f = [] := by cases f with
    | nil => rfl
    | cons _ _ => exact absurd q9 id
   subst hf
   have hy : ys = [] := by
    have := q8.length_eq
    rw [menc_length] at this
    exact List.eq_nil_of_length_eq_zero this.symm
   exact ⟨.tuple #[.bool false], w, rTup [rB false], H, Z, by simp [execOp, ha.eval hx, r2], Fz.le.refl _, ⟨[.bool false], rfl, rfl, trivial⟩, hw, h0 hy⟩
  ·rw [hlf] at r1
   obtain ⟨j, hj⟩ := List.mem_iff_getElem?.1 r1
   obtain ⟨k, r, e1, e2, e3⟩ := q9.at.2 j e hj
   obtain ⟨p, ys', s1, s2, s3, s4⟩ := perm_enc q8 e1
   have hnl : ((es.toList.filter fun e => !seen.contains e.born).map (·.born)).Nodup := q3.2.1.sublist ((List.filter_sublist ..).map _)
   have hleft : es.toList.filter (fun x => !(seen.push e.born).contains x.born) = (es.toList.filter fun e => !seen.contains e.born).eraseIdx j := by
    rw [← filter_erase (q := fun _ => true) hnl hj, List.filter_filter]
    refine List.filter_congr fun x _ => ?_
    simp only [Array.contains_push, Bool.not_or]
    rw [Bool.and_comm]
   have hd : St c H Z w1 := by
    rcases r2 with rfl | rfl
    ·exact hw
    ·exact hw.drawn _
   have q2' : w1.heap[it]? = some (.mapIter (some b) since seen c0) := by rcases r2 with rfl | rfl <;> exact q2
   have q1' : w1.heap[b]? = some (.map es ck) := by rcases r2 with rfl | rfl <;> exact q1
   obtain ⟨t1, t2⟩ := MapKept.heap_set (o' := .mapIter (some b) since (seen.push e.born) ck) q2'
   refine ⟨.tuple #[.bool true, e.key, e.val], ChangeMaps.setBlock w1 it (.mapIter (some b) since (seen.push e.born) ck), rTup [rB true, rS p.1, enc p.2], H.set i (.mit b it m (menc enc ys') (some (p.1, enc p.2))), Z, by simp [execOp, ha.eval hx, r3], Fz.le.refl _, ⟨[.bool true, e.key, e.val], rfl, rfl, ?_, ?_, trivial⟩, hd.set hi rfl rfl rfl (by simp [ChangeMaps.setBlock]) (fun k' _ hk' => t2 k' (fun e' => hk' (by simp [Ent.foot, e']))) ?_ (fun k' hk' => .inl (by simpa [Ent.foot] using hk')), h1 p ys' s1⟩
   ·show e.key = .string (B p.1); rw [s2]; exact e2
   ·rw [s3]; exact e3
   ·exact ⟨es, ck, seen.push e.born, since, ck, (t2 b q7).trans q1', t1, q3, q4, Nat.le_trans q5 q6, Nat.le_refl _, q7, ⟨f.eraseIdx j, s4, by rw [hleft]; exact q9.erase j⟩, rfl, seen, e, rfl, (List.mem_filter.1 r1).1, by rw [s2]; exact e2, by rw [s3]; exact e3⟩) hn
theorem St.unmit {Z : Fz} {w : World} (h : St c H Z w) (hi : H[i]? = some (.mit b it m lf cur)) : St c (H.set i (.map b m)) Z w := by
 obtain ⟨es, ck, seen, since, c0, q1, q2, q3, _⟩ := h.ent hi
 exact h.set hi rfl rfl rfl (Nat.le_refl _) (fun _ _ _ => rfl) ⟨es, ck, q1, q3⟩ (by simp [Ent.foot])
theorem WK.unmit (hi : H[i]? = some (.mit b it m lf cur)) (h : WK n c K l (H.set i (.map b m))) : WK n c K l H := fun a w Z ha hw => h a w Z ha (hw.unmit hi)
theorem WC.unmit (hi : H[i]? = some (.mit b it m lf cur)) (h : WC P n c cx Q l (H.set i (.map b m))) : WC P n c cx Q l H := fun a w Z ha hw => h a w Z ha (hw.unmit hi)
theorem WL.unmit (hi : H[i]? = some (.mit b it m lf cur)) (h : WL P n c ops Q rest l (H.set i (.map b m))) : WL P n c ops Q rest l H := fun a w Z ha hw => h a w Z ha (hw.unmit hi)
theorem St.uncur {Z : Fz} {w : World} (h : St c H Z w) (hi : H[i]? = some (.mit b it m lf cur)) : St c (H.set i (.mit b it m lf none)) Z w := by
 obtain ⟨es, ck, seen, since, c0, q1, q2, q3, q4, q5, q6, q7, q8, _⟩ := h.ent hi
 exact h.set hi rfl rfl rfl (Nat.le_refl _) (fun _ _ _ => rfl) ⟨es, ck, seen, since, c0, q1, q2, q3, q4, q5, q6, q7, q8, trivial⟩ (fun k hk => .inl (by simpa [Ent.foot] using hk))
theorem WK.uncur (hi : H[i]? = some (.mit b it m lf cur)) (h : WK n c K l (H.set i (.mit b it m lf none))) : WK n c K l H := fun a w Z ha hw => h a w Z ha (hw.uncur hi)
theorem o_entry {dd : Option Nat} {g : Option (Nat × Bool)} (hx : ev l x = some (rv (.pointer (some ⟨it, 0, none⟩)))) (hi : H[i]? = some (.mit b it m lf (some (k, r)))) :
  ORun P n c l H { dst := dd, op := .entry x, type := ty, pos := pos, after := af, guard := g } (rTup [rS k, r]) := fun a w Z ha hw => by
 obtain ⟨es, ck, seen, since, c0, q1, q2, q3, q4, q5, q6, q7, q8, rfl, s0, e, rfl, h1, h2, h3⟩ := hw.ent hi
 exact ⟨.tuple #[e.key, e.val], ⟨[e.key, e.val], rfl, h2, h3, trivial⟩, by simp [execOp, ha.eval hx, run_entry_at w it b since s0 es c0 e q2 q1 h1 q3.2.1]⟩
end
end Go.Proofs.YtjfnokmpfekniaaGreatDoor.Q

/-
 DERIVED: THE SHELF's CONTRACTS AT THIS DUMP, IN PLAIN WORDS (tools/lay-plain.mjs out of 'YtjfnokmpfekniaaGreatDoorIter.lean', which tools/lay-shelf.mjs wrote): THE SAME DECLARATIONS UNDER THE SAME NAMES: 'import', 'namespace', 'open', 'def', 'theorem' AND NOTHING ELSE: no command of the shelf's: FOR A HAND-IN. Each laying: the table of numbers ('.._ren') and one theorem, a field a fact of the dump's own or the kernel's comparison; each contract: ONE APPLICATION.
-/
namespace Go.Proofs
open Go.Shelf
def Tryz.sort62_ren : Go.Shelf.Ren := ⟨fun | 6 => 62 | 8 => 86 | 9 => 85 | 19 => 118 | 20 => 119 | 21 => 109 | 22 => 110 | 23 => 111 | 24 => 112 | 25 => 113 | 26 => 114 | 27 => 115 | 28 => 116 | 29 => 117 | 36 => 148 | 31 => 149 | 32 => 150 | 37 => 151 | 38 => 152 | 39 => 153 | 41 => 165 | n => n, fun | 27 => 51 | 29 => 9 | 3 => 3 | 32 => 109 | 26 => 51 | 0 => 0 | 44 => 116 | 46 => 145 | 4 => 4 | 36 => 138 | 35 => 137 | 41 => 68 | 5 => 5 | 9 => 9 | 53 => 171 | 57 => 175 | 63 => 185 | 64 => 186 | n => n, fun | n => n⟩
theorem Tryz.sort62 : Go.Proofs.SlLaysM.n6 Tryz.prog Tryz.sort62_ren := {
 mixed := by kernel_rfl
 f6 := ⟨Tryz.f62.name, by decide, Tryz.func62.trans (congrArg some (by kernel_rfl))⟩
 f8 := Tryz.func86.trans (congrArg some (by kernel_rfl))
 f9 := ⟨Tryz.f85.name, by decide, Tryz.func85.trans (congrArg some (by kernel_rfl))⟩
 f19 := Tryz.func118.trans (congrArg some (by kernel_rfl))
 f20 := Tryz.func119.trans (congrArg some (by kernel_rfl))
 f21 := ⟨Tryz.f109.name, by decide, Tryz.func109.trans (congrArg some (by kernel_rfl))⟩
 f22 := ⟨Tryz.f110.name, by decide, Tryz.func110.trans (congrArg some (by kernel_rfl))⟩
 f23 := ⟨Tryz.f111.name, by decide, Tryz.func111.trans (congrArg some (by kernel_rfl))⟩
 f24 := ⟨Tryz.f112.name, by decide, Tryz.func112.trans (congrArg some (by kernel_rfl))⟩
 f25 := ⟨Tryz.f113.name, by decide, Tryz.func113.trans (congrArg some (by kernel_rfl))⟩
 f26 := ⟨Tryz.f114.name, by decide, Tryz.func114.trans (congrArg some (by kernel_rfl))⟩
 f27 := ⟨Tryz.f115.name, by decide, Tryz.func115.trans (congrArg some (by kernel_rfl))⟩
 f28 := ⟨Tryz.f116.name, by decide, Tryz.func116.trans (congrArg some (by kernel_rfl))⟩
 f29 := ⟨Tryz.f117.name, by decide, Tryz.func117.trans (congrArg some (by kernel_rfl))⟩
 f31 := Tryz.func149.trans (congrArg some (by kernel_rfl))
 f32 := Tryz.func150.trans (congrArg some (by kernel_rfl))
 f36 := ⟨Tryz.f148.name, by decide, Tryz.func148.trans (congrArg some (by kernel_rfl))⟩
 f37 := ⟨Tryz.f151.name, by decide, Tryz.func151.trans (congrArg some (by kernel_rfl))⟩
 f38 := ⟨Tryz.f152.name, by decide, Tryz.func152.trans (congrArg some (by kernel_rfl))⟩
 f39 := ⟨Tryz.f153.name, by decide, Tryz.func153.trans (congrArg some (by kernel_rfl))⟩
 f41 := ⟨Tryz.f165.name, by decide, Tryz.func165.trans (congrArg some (by kernel_rfl))⟩
 t0 := Tryz.underlying0
 a0 := Tryz.isAgg0
 z0 := Tryz.sizeOf0
 v0 := Tryz.zeroValue0
 t3 := Tryz.underlying3
 a3 := Tryz.isAgg3
 z3 := Tryz.sizeOf3
 v3 := Tryz.zeroValue3
 t4 := Tryz.underlying4
 a4 := Tryz.isAgg4
 z4 := Tryz.sizeOf4
 v4 := Tryz.zeroValue4
 t5 := Tryz.underlying5
 a5 := Tryz.isAgg5
 z5 := Tryz.sizeOf5
 v5 := Tryz.zeroValue5
 t9 := Tryz.underlying9
 a9 := Tryz.isAgg9
 z9 := Tryz.sizeOf9
 v9 := Tryz.zeroValue9
 t26 := Tryz.underlying51
 a26 := Tryz.isAgg51
 z26 := Tryz.sizeOf51
 v26 := Tryz.zeroValue51
 t27 := Tryz.underlying51
 a27 := Tryz.isAgg51
 z27 := Tryz.sizeOf51
 v27 := Tryz.zeroValue51
 t29 := Tryz.underlying9
 a29 := Tryz.isAgg9
 z29 := Tryz.sizeOf9
 v29 := Tryz.zeroValue9
 t32 := Tryz.underlying109
 a32 := Tryz.isAgg109
 z32 := Tryz.sizeOf109
 v32 := Tryz.zeroValue109
 t35 := Tryz.underlying137
 a35 := Tryz.isAgg137
 z35 := Tryz.sizeOf137
 v35 := Tryz.zeroValue137
 t36 := Tryz.underlying138
 a36 := Tryz.isAgg138
 z36 := Tryz.sizeOf138
 v36 := Tryz.zeroValue138
 t41 := Tryz.underlying68
 a41 := Tryz.isAgg68
 z41 := Tryz.sizeOf68
 v41 := Tryz.zeroValue68
 t44 := Tryz.underlying116
 a44 := Tryz.isAgg116
 z44 := Tryz.sizeOf116
 v44 := Tryz.zeroValue116
 t46 := Tryz.underlying145
 a46 := Tryz.isAgg145
 z46 := Tryz.sizeOf145
 v46 := Tryz.zeroValue145
 t53 := Tryz.underlying171
 a53 := Tryz.isAgg171
 z53 := Tryz.sizeOf171
 v53 := Tryz.zeroValue171
 t57 := Tryz.underlying175
 a57 := Tryz.isAgg175
 z57 := Tryz.sizeOf175
 v57 := Tryz.zeroValue175
 t63 := Tryz.underlying185
 a63 := Tryz.isAgg185
 z63 := Tryz.sizeOf185
 v63 := Tryz.zeroValue185
 t64 := Tryz.underlying186
 a64 := Tryz.isAgg186
 z64 := Tryz.sizeOf186
 v64 := Tryz.zeroValue186 }
def Tryz.sorted42_ren : Go.Shelf.Ren := ⟨fun | 6 => 42 | 8 => 61 | 9 => 62 | 11 => 84 | 13 => 86 | 12 => 85 | 23 => 118 | 24 => 119 | 14 => 109 | 15 => 110 | 16 => 111 | 17 => 112 | 18 => 113 | 19 => 114 | 20 => 115 | 21 => 116 | 22 => 117 | 25 => 148 | 26 => 149 | 27 => 150 | 28 => 151 | 29 => 152 | 30 => 153 | 31 => 165 | n => n, fun | 26 => 9 | 28 => 73 | 24 => 51 | 0 => 0 | 3 => 3 | 37 => 109 | 48 => 116 | 50 => 145 | 4 => 4 | 40 => 138 | 39 => 137 | 45 => 68 | 5 => 5 | 9 => 9 | 51 => 171 | 55 => 175 | 57 => 185 | 58 => 186 | 33 => 89 | n => n, fun | n => n⟩
theorem Tryz.sorted42 : Go.Proofs.SlLaysZ.n6 Tryz.prog Tryz.sorted42_ren := {
 mixed := by kernel_rfl
 f6 := ⟨Tryz.f42.name, by decide, Tryz.func42.trans (congrArg some (by kernel_rfl))⟩
 f8 := ⟨Tryz.f61.name, by decide, Tryz.func61.trans (congrArg some (by kernel_rfl))⟩
 f11 := ⟨Tryz.f84.name, by decide, Tryz.func84.trans (congrArg some (by kernel_rfl))⟩
 t0 := Tryz.underlying0
 a0 := Tryz.isAgg0
 z0 := Tryz.sizeOf0
 v0 := Tryz.zeroValue0
 t24 := Tryz.underlying51
 a24 := Tryz.isAgg51
 z24 := Tryz.sizeOf51
 v24 := Tryz.zeroValue51
 t26 := Tryz.underlying9
 a26 := Tryz.isAgg9
 z26 := Tryz.sizeOf9
 v26 := Tryz.zeroValue9
 t28 := Tryz.underlying73
 a28 := Tryz.isAgg73
 z28 := Tryz.sizeOf73
 v28 := Tryz.zeroValue73
 i26 := by kernel_rfl }
def Tryz.keys43_ren : Go.Shelf.Ren := ⟨fun | 7 => 43 | 10 => 63 | n => n, fun | 23 => 57 | 26 => 9 | 3 => 35 | 28 => 73 | 0 => 0 | 27 => 72 | 33 => 89 | 4 => 4 | n => n, fun | n => n⟩
theorem Tryz.keys43 : Go.Proofs.SlLaysZ.n7 Tryz.prog Tryz.keys43_ren := {
 mixed := by kernel_rfl
 f7 := ⟨Tryz.f43.name, by decide, Tryz.func43.trans (congrArg some (by kernel_rfl))⟩
 f10 := ⟨Tryz.f63.name, by decide, Tryz.func63.trans (congrArg some (by kernel_rfl))⟩
 t0 := Tryz.underlying0
 a0 := Tryz.isAgg0
 z0 := Tryz.sizeOf0
 v0 := Tryz.zeroValue0
 t4 := Tryz.underlying4
 a4 := Tryz.isAgg4
 z4 := Tryz.sizeOf4
 v4 := Tryz.zeroValue4
 t23 := Tryz.underlying57
 a23 := Tryz.isAgg57
 z23 := Tryz.sizeOf57
 v23 := Tryz.zeroValue57
 t26 := Tryz.underlying9
 a26 := Tryz.isAgg9
 z26 := Tryz.sizeOf9
 v26 := Tryz.zeroValue9
 t27 := Tryz.underlying72
 a27 := Tryz.isAgg72
 z27 := Tryz.sizeOf72
 v27 := Tryz.zeroValue72
 t28 := Tryz.underlying73
 a28 := Tryz.isAgg73
 z28 := Tryz.sizeOf73
 v28 := Tryz.zeroValue73
 t33 := Tryz.underlying89
 a33 := Tryz.isAgg89
 z33 := Tryz.sizeOf89
 v33 := Tryz.zeroValue89 }
end Go.Proofs

/-
 The keys of maps, in order: the library's contracts in the words of the calculus. Plain theorems over the seat's program; no condition.
-/
namespace Go.Proofs.YtjfnokmpfekniaaGreatDoor.Q
open Go Go.RowKit Go.Maps Go.Sort Go.Shelf Go.Proofs
set_option linter.unusedVariables false
set_option maxHeartbeats 1000000
theorem rv_one {Z : Fz} {v : Value} {vs : List Value} (h : RpAll Z [rv v] vs) : vs = [v] := RpAll.eq_rv (us := [v]) h
theorem menc_keys {T : Type} (enc : T → Rp) (xs : List (Str × T)) : (menc enc xs).map (·.1) = xs.map (·.1) := by simp [menc]
theorem mkeys_43_q (b : Nat) : Fn Tryz.prog GE 43 [rv (.map (some b))] [] (fun R H => ∃ k : Nat, R = rv (.func (.func 63) #[] #[.pointer (some ⟨k, 0, none⟩)]) ∧ H = [.blk k [rv (.map (some b))] 57]) := fun w Z vs hv hs => by
 have e := rv_one hv
 subst e
 have hc : Calls Tryz.prog 43 #[.map (some b)] w (fun e w' => e = .returned (.func (.func 63) #[] #[.pointer (some ⟨w.heap.size, 0, none⟩)]) ∧ w' = w.alloc (.cells #[.map (some b)] 57)) := callsIn_wide.1 (AnyZ.keys_in Tryz.keys43 Fence.wide 5 trivial rfl (some b) w)
 refine hc.mono ?_
 rintro e w' ⟨rfl, rfl⟩
 exact ⟨_, _, _, Z, rfl, ⟨w.heap.size, rfl, rfl⟩, rfl, hs.alloc _ ⟨[.map (some b)], by simpa using heap_alloc_new w _, rfl, trivial⟩ rfl⟩
theorem sorts_42_q (m : Nat) : AnyZ.SortsIn Tryz.prog Tryz.sorted42_ren Fence.wide m :=
  ⟨fun blk off cap ss W hH hblk hsz => callsIn_wide.2 (AnyM.slices_Sort_string Tryz.sort62 blk off cap ss W hH hblk hsz),
   fun p cap W => callsIn_wide.2 (AnyM.slices_Sort_string_none Tryz.sort62 p cap W)⟩
theorem sorted_43_q {T : Type} (enc : T → Rp) (xs : List (Str × T)) (k b : Nat) (hk : keysOk xs = true) : Fn Tryz.prog GE 42 [rv (.func (.func 63) #[] #[.pointer (some ⟨k, 0, none⟩)])] [.blk k [rv (.map (some b))] 57, .map b (menc enc xs)] (fun R H => ∃ v : Value, R = rv v ∧ H = [.row v 9 1 ((mkeys xs).map eS), .blk k [rv (.map (some b))] 57, .map b (menc enc xs)]) := fun w Z vs hv hs => by
 have e := rv_one hv
 subst e
 obtain ⟨us, h1, h2⟩ := hs.ent (i := 0) rfl
 have e2 := rv_one h2
 subst e2
 obtain ⟨es, ck, h3, h4⟩ := hs.ent (i := 1) rfl
 unfold keysOk at hk
 simp only [Bool.and_eq_true, decide_eq_true_eq, List.all_eq_true] at hk
 have hlen : (menc enc xs).length = xs.length := menc_length enc xs
 have hkl : ∀ p ∈ menc enc xs, p.1.length ≤ maxLen := fun p hp => by
  obtain ⟨y, hy, rfl⟩ := List.mem_map.1 hp
  have := hk.2 y hy
  have e : maxLen = 9223372036854775807 := rfl
  rw [e]
  simpa [okS] using this
 obtain ⟨D0, d1, d2, d3⟩ := own_map (k := 9) Tryz.underlying9 h3 h4 hkl (by rw [hlen]; have := hk.1; have e : maxLen = 9223372036854775807 := rfl; omega)
 have hkb : k < w.heap.size := (Array.getElem?_eq_some_iff.1 h1).1
 have hcell : w.cell? ⟨k, 0, none⟩ = some (.map (some b)) := by simp [World.cell?, h1]
 have hseq : SeqGives Fence.wide 2 Tryz.prog 63 #[.pointer (some ⟨k, 0, none⟩)] encStr (fun ss => ss.Perm (strKeys D0)) (Maps.size D0) w :=
  AnyZ.keys_gives (ρ := Tryz.keys43_ren) { Tryz.keys43 with } Fence.wide _ trivial rfl (by omega) k b es.size D0 w hkb hcell d1
 have hc := AnyZ.sorted_in Tryz.sorted42 Fence.wide 5 trivial trivial trivial trivial rfl (by omega) (sorts_42_q _) (enters_of Tryz.func62 (by kernel_rfl) rfl) 63 #[.pointer (some ⟨k, 0, none⟩)] trivial (enters_of Tryz.func63 (by kernel_rfl) rfl) _ (Maps.size D0) (by rw [d3, hlen]; have := hk.1; have e : maxLen = 9223372036854775807 := rfl; omega) (by rw [d3, hlen]; exact hk.1) w hseq
 refine (callsIn_wide.1 hc).mono ?_
 rintro e w' ⟨v, ss, rfl, hS, hrow, hnil, hb⟩
 have hp : ss.Perm (xs.map (·.1)) := hS.trans (by rw [← menc_keys enc xs]; exact d2)
 have e1 : ss.mergeSort (fun x y => decide (x ≤ y)) = mkeys xs := mergeSort_of_perm hp
 have e3 : ss.length = (mkeys xs).length := by rw [← e1, List.length_mergeSort]
 rw [e1, e3] at hrow
 exact ⟨_, v, _, Z, rfl, ⟨v, rfl, rfl⟩, rfl, hs.newrow hb hrow⟩
end Go.Proofs.YtjfnokmpfekniaaGreatDoor.Q
