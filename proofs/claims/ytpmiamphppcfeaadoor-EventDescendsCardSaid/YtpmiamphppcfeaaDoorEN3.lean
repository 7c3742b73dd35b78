/-
  Texts of the proof, put together: WVb, PVc, WVc, PVd.
-/
import Derived.Test.YtpmiamphppcfeaaDoorEN2
/-
  Walks, printed by a small program of ours (gq.py).
-/
namespace Go.Proofs.YtpmiamphppcfeaaDoor.Q
open Go Go.RowKit
set_option linter.unusedVariables false
set_option linter.unusedSimpArgs false
set_option maxRecDepth 100000
set_option maxHeartbeats 4000000
@[reducible] def eTApiCell (x : TApiCell) : List Rp := [rI .i64 x.fKind, rI .i64 x.fInt, rS x.fStr, rI .i64 x.fN]
theorem eTApiCell_len (x : TApiCell) : (eTApiCell x).length = 4 := rfl
theorem eTApiCell_one (x : TApiCell) : (eTApiCell x).all (·.one) = true := rfl
@[reducible] def eTValueOpen (x : TValueOpen) : List Rp := [rB x.fPairs, rI .i64 x.fLeft, rB x.fKey, rS x.fLast, rB x.fStarted]
theorem eTValueOpen_len (x : TValueOpen) : (eTValueOpen x).length = 5 := rfl
theorem eTValueOpen_one (x : TValueOpen) : (eTValueOpen x).all (·.one) = true := rfl
@[reducible] def eTValueShape (x : TValueShape) : List Rp := [rI .i64 x.fDepth, rI .i64 x.fBytes, rB x.fOutside, rB x.fLong]
theorem info95 : ∃ inf, Tryd.prog.info? 95 = some inf ∧ inf.zero = some (.agg #[(.bool false), (.int .i64 0), (.bool false), (.string ⟨#[]⟩), (.bool false)]) ∧ inf.size = 5 ∧ inf.bytes = 48 := by
  have key : (Tryd.prog.info? 95).map (fun i => (i.zero, i.size, i.bytes)) = some (some (.agg #[(.bool false), (.int .i64 0), (.bool false), (.string ⟨#[]⟩), (.bool false)]), 5, 48) := by kernel_rfl
  obtain ⟨inf, h1, h2⟩ := Option.map_eq_some_iff.1 key
  simp only [Prod.mk.injEq] at h2
  exact ⟨inf, h1, h2.1, h2.2.1, h2.2.2⟩
theorem built95 (parts : List (Nat × Value)) : Tryd.prog.built 95 parts = Instr.fill (fun i => (#[(0, 1), (1, 1), (2, 1), (3, 1), (4, 1)] : Array (Nat × Nat))[i]?) #[(.bool false), (.int .i64 0), (.bool false), (.string ⟨#[]⟩), (.bool false)] parts := by kernel_rfl
theorem o_build95_0_1_2 {n : Nat} {c : Cx} {l : Fr} {H : List Ent} {d : Option Nat} {ty : TypeId} {pos : String} {af : Array Edge} {g : Option (Nat × Bool)} {x0 : Operand} {r0 : Rp} (h0 : ev l x0 = some r0) (u0 : r0.one = true) {x1 : Operand} {r1 : Rp} (h1 : ev l x1 = some r1) (u1 : r1.one = true) {x2 : Operand} {r2 : Rp} (h2 : ev l x2 = some r2) (u2 : r2.one = true) : ORun Tryd.prog n c l H { dst := d, op := .build 95 #[(0, x0), (1, x1), (2, x2)], type := ty, pos := pos, after := af, guard := g } (rAgg [r0, r1, r2, rS ([] : Str), rB false]) := fun a w Z ha _ => by
  have p0 := ha.ev h0
  have c0 := cells_one (r0.hone u0 Z _ p0)
  have p1 := ha.ev h1
  have c1 := cells_one (r1.hone u1 Z _ p1)
  have p2 := ha.ev h2
  have c2 := cells_one (r2.hone u2 Z _ p2)
  have hb : Tryd.prog.built 95 [(0, a.eval x0), (1, a.eval x1), (2, a.eval x2)] = some #[a.eval x0, a.eval x1, a.eval x2, (.string ⟨#[]⟩), (.bool false)] := by
    rw [built95]
    generalize a.eval x0 = v0 at *
    generalize a.eval x1 = v1 at *
    generalize a.eval x2 = v2 at *
    simp [Instr.fill, c0, c1, c2]
  refine ⟨.agg #[a.eval x0, a.eval x1, a.eval x2, (.string ⟨#[]⟩), (.bool false)], ⟨[a.eval x0, a.eval x1, a.eval x2, (.string ⟨#[]⟩), (.bool false)], rfl, p0, p1, p2, rfl, rfl, trivial⟩, ?_⟩
  have := run_build w 95 #[(0, a.eval x0), (1, a.eval x1), (2, a.eval x2)] _ (by simpa using hb)
  simp [execOp, this]
theorem nValid_w (n : Int) (r : Bool) (h : nValid n = some r) : Fn Tryd.prog GE 34 [rI .i64 n] [] (fun R H => R = rB r ∧ H = []) := by
 refine enter (n := 9) Tryd.func34 rfl Tryd.ntmps34 rfl (fun w Z => ?_)
 refine wc_as (l' := [(0, rI .i64 n)]) (H' := []) rfl rfl ?_
 unfold nValid at h
 refine wc_sr (wv (r := rB false) (o_assign rfl) (wl_x (wc_seq_mid [(2, rB ((decide ((-1000000000000) ≤ n)) && (decide (n ≤ 1000000000000))))] [] ?_ ?_)))
 ·refine wc_region (wm rfl (wv (o_le rfl rfl) (wm rfl (bsplit (decide ((-1000000000000) ≤ n)) (fun c1 => ?_) (fun c1 => ?_)))))
  ·refine wo c1 (wm rfl (wo c1 (wv (o_le rfl rfl) (wpt rfl c1 rfl (wa rfl (wl_nil ?_))))))
   exact wtc c1
  ·refine wf c1 (wf c1 (wv (r := rB false) (o_pick_f (b := decide ((-1000000000000) ≤ n)) rfl c1 rfl) (wa rfl (wl_nil ?_))))
   exact wtc c1
 refine wc_ret ?_
 obtain rfl := some_e h
 exact wk_ret (r_1 Tryd.results34 (rv_t rfl)) sN ⟨rfl, rfl⟩

theorem vText_w (F : Nat) (s : Str) (r : Bool) (h : vText F s = some r) : Fn Tryd.prog GE 69 [rS s] [] (fun R H => R = rB r ∧ H = []) := by
 refine enter (n := 20) Tryd.func69 rfl Tryd.ntmps69 rfl (fun w Z => ?_)
 refine wc_as (l' := [(0, rS s)]) (H' := []) rfl rfl ?_
 unfold vText at h
 refine wc_sr (wv (r := rB false) (o_assign rfl) (wl_x (wc_seq (wc_sr (wm rfl (wv (o_len_s Tryd.underlying9 rfl) (wv (r := rI .i64 0) (o_move rfl) (wl_x (wc_block ?_)))))))))
 obtain ⟨o34, eo35, hK36⟩ := obn_e h
 refine wc_loop2 (S := Nat × (Int) × (Unit)) (V := (Unit) × (Unit)) 0 (fun σ => lop (fun σ => vText_b1 s σ) σ.1 σ.2.1 = some o34) (fun σ => [(0, rS s), (5, rI .i64 (s.length : Int)), (6, rI .i64 σ.2.1)]) (fun σ => []) (fun σ => σ.1) (F, 0, ()) eo35 (Sub.c rfl (Sub.c rfl (Sub.c rfl Sub.nil))) sN (fun σ => vText_k1  = some r) (fun σ => []) (fun σ => []) ?_ ?_
 ·rintro ⟨n42, x22, ⟨⟩⟩ hi40
  refine wc_as (l' := [(0, rS s), (5, rI .i64 (s.length : Int)), (6, rI .i64 x22)]) (H' := []) rfl rfl ?_
  obtain ⟨m39, rfl, t37, h41, ht38⟩ := lop_e hi40
  replace h41 : vText_b1 s x22 = some t37 := h41
  unfold vText_b1 at h41
  refine wc_sr (wv (o_lt rfl rfl) (wl_x (wc_seq (wc_cond (b := decide (x22 < (s.length : Int))) rfl (fun c43 => ?_) (fun c43 => ?_)))))
  ·have h44 := cnd_t c43 h41
   refine wc_skip (wk_x (wc_seq (wc_block (wc_sr (wm rfl (wa rfl (wl_x ?_)))))))
   obtain ⟨g45, h46⟩ := chk_e h44
   refine wc_seq_mid [(0, rS s), (5, rI .i64 (s.length : Int)), (6, rI .i64 x22), (18, rB ((decide ((bat s x22) < 32)) || (decide (126 < (bat s x22)))))] [] ?_ ?_
   ·refine wc_region (wm rfl (wm rfl (wv (o_index_b Tryd.underlying9 rfl rfl g45) (wv (o_lt rfl rfl) (wm rfl (bsplit (decide ((bat s x22) < 32)) (fun c47 => ?_) (fun c47 => ?_)))))))
    ·refine wf c47 (wf c47 (wf c47 (wf c47 (wv (r := rB true) (o_pick_t (b := decide ((bat s x22) < 32)) rfl c47 rfl) (wl_nil ?_)))))
     exact wtc c47
    ·refine wo c47 (wm rfl (wo c47 (wm rfl (wo c47 (wv (o_index_b Tryd.underlying9 rfl rfl g45) (wo c47 (wv (o_gt rfl rfl) (wpf rfl c47 rfl (wl_nil ?_)))))))))
     exact wtc c47
   refine wc_cond (b := ((decide ((bat s x22) < 32)) || (decide (126 < (bat s x22))))) rfl (fun c48 => ?_) (fun c48 => ?_)
   ·have h49 := cnd_t c48 h46
    refine wc_sr (wv (r := rB false) (o_assign rfl) (wl_x (wc_ret (wk_in_ret (wk_then_ret (wk_then_ret (wk_cut_ret ?_)))))))
    have h50 := stp_ret h49 ht38 hK36
    refine wk_in_ret (wk_then_ret ?_)
    obtain rfl := some_e h50
    exact wk_ret (r_1 Tryd.results69 (rv_t rfl)) sN ⟨rfl, rfl⟩
   ·have h51 := cnd_f c48 h46
    refine wc_skip (wk_in_norm (wk_x (wc_region ?_)))
    obtain ⟨g52, h53⟩ := chk_e h51
    refine wv (o_add rfl rfl g52) (wm rfl (wl_nil ?_))
    have h54 := stp_next h53 ht38
    exact wk_then (wk_some (m39, x22 + 1, ()) ⟨h54, Nat.lt_succ_self _⟩ (Sub.c rfl (Sub.c rfl (Sub.c rfl Sub.nil))) sN)
  ·have h55 := cnd_f c43 h41
   refine wc_exit (wk_then_exit ?_)
   have h56 := stp_go h55 ht38 hK36
   exact wk_then_exit (wk_cut_hit (wk_some ((), ()) h56 Sub.nil sN))
 ·rintro ⟨⟨⟩, ⟨⟩⟩ h57
  refine wk_as (l' := []) (H' := []) rfl rfl ?_
  replace h57 : vText_k1  = some r := h57
  unfold vText_k1 at h57
  refine wk_in_hit (wk_x (wc_sr (wv (r := rB true) (o_assign rfl) (wl_x (wc_ret ?_)))))
  obtain rfl := some_e h57
  exact wk_ret (r_1 Tryd.results69 (rv_t rfl)) sN ⟨rfl, rfl⟩

theorem vQuoted_w (s : Str) (r : Int) (h : vQuoted s = some r) : Fn Tryd.prog GE 55 [rS s] [] (fun R H => R = rI .i64 r ∧ H = []) := by
 refine enter (n := 12) Tryd.func55 rfl Tryd.ntmps55 rfl (fun w Z => ?_)
 refine wc_as (l' := [(0, rS s)]) (H' := []) rfl rfl ?_
 unfold vQuoted at h
 refine wc_sr (wv (r := rI .i64 0) (o_assign rfl) (wl_y (wm rfl (wv (o_len_s Tryd.underlying9 rfl) ?_))))
 obtain ⟨g1, h2⟩ := chk_e h
 refine wv (o_add rfl rfl g1) (wm rfl (w_call0 (rs := [rS s, rS ([34] : Str)]) (r := rI .i64 (Lib.countByte s 34 : Int)) Tryd.call70 rfl (count_q s 34) rfl rfl ?_))
 obtain ⟨g3, h4⟩ := chk_e h2
 refine wv (o_add rfl rfl g3) (wm rfl (w_call0 (rs := [rS s, rS ([92] : Str)]) (r := rI .i64 (Lib.countByte s 92 : Int)) Tryd.call70 rfl (count_q s 92) rfl rfl ?_))
 obtain ⟨g5, h6⟩ := chk_e h4
 refine wv (o_add rfl rfl g5) (wa rfl (wl_x (wc_ret ?_)))
 obtain rfl := some_e h6
 exact wk_ret (r_1 Tryd.results55 (rv_t rfl)) sN ⟨rfl, rfl⟩

theorem vPlain_w (F : Nat) (c : TApiCell) (r : Bool) (h : vPlain F c = some r) : Fn Tryd.prog GE 54 [rAgg (eTApiCell c)] [] (fun R H => R = rB r ∧ H = []) := by
 refine enter (n := 81) Tryd.func54 rfl Tryd.ntmps54 rfl (fun w Z => ?_)
 refine wc_as (l' := [(0, rAgg (eTApiCell c))]) (H' := []) rfl rfl ?_
 unfold vPlain at h
 refine wc_sr (w_box_agg rfl rfl (fun b1 => ?_))
 refine wv (r := rB false) (o_assign rfl) (wl_x (wc_seq (wc_sr (wv (o_fieldAddr Tryd.underlying54 rfl Tryd.sizeOf52 rfl rfl) (wv (o_load (i := 0) Tryd.isAgg52 rfl rfl rfl) (wl_x (wc_block (wc_sr (wv (o_eq rfl rfl) (wa rfl (wl_x (wc_cond (b := decide (c.fKind = 1)) rfl (fun c2 => ?_) (fun c2 => ?_)))))))))))))
 ·have h3 := cnd_t c2 h
  refine wc_seq_mid [(2, rB ((decide (c.fInt = 0)) && ((decide (c.fStr = ([] : Str))) && (decide (c.fN = 0)))))] [] ?_ ?_
  ·refine wc_region (wv (o_fieldAddr Tryd.underlying54 rfl Tryd.sizeOf3 rfl rfl) (wv (o_load (i := 0) Tryd.isAgg3 rfl rfl rfl) (wv (o_eq rfl rfl) (wm rfl (bsplit (decide (c.fInt = 0)) (fun c4 => ?_) (fun c4 => ?_))))))
   ·refine wo c4 (wv (o_fieldAddr Tryd.underlying54 rfl Tryd.sizeOf9 rfl rfl) (wo c4 (wv (o_load (i := 0) Tryd.isAgg9 rfl rfl rfl) (wo c4 (wv (o_seq rfl rfl) (wpt rfl c4 rfl (wm rfl (bsplit (decide (c.fStr = ([] : Str))) (fun c5 => ?_) (fun c5 => ?_)))))))))
    ·refine wo c5 (wv (o_fieldAddr Tryd.underlying54 rfl Tryd.sizeOf3 rfl rfl) (wo c5 (wv (o_load (i := 0) Tryd.isAgg3 rfl rfl rfl) (wo c5 (wv (o_eq rfl rfl) (wpt rfl c5 rfl (wa rfl (wl_nil ?_))))))))
     exact wtc (And.intro c4 c5)
    ·refine wf c5 (wf c5 (wf c5 (wv (r := rB false) (o_pick_f (b := decide (c.fStr = ([] : Str))) rfl c5 rfl) (wa rfl (wl_nil ?_)))))
     exact wtc (And.intro c4 c5)
   ·refine wf c4 (wf c4 (wf c4 (wv (r := rB false) (o_pick_f (b := decide (c.fInt = 0)) rfl c4 rfl) (wm rfl (wl_off (b := false) rfl rfl rfl rfl (wl_off (b := false) rfl rfl rfl rfl (wl_off (b := false) rfl rfl rfl rfl (wv (r := rB false) (o_pick_f (b := false) rfl rfl rfl) (wa rfl (wl_nil ?_))))))))))
    exact wtc c4
  refine wc_ret (wk_in_ret (wk_then_ret ?_))
  obtain rfl := some_e h3
  exact wk_ret (r_1 Tryd.results54 (rv_t rfl)) sN ⟨rfl, rfl⟩
 ·have h6 := cnd_f c2 h
  refine wc_sr (wv (o_eq rfl rfl) (wa rfl (wl_x (wc_cond (b := decide (c.fKind = 2)) rfl (fun c7 => ?_) (fun c7 => ?_)))))
  ·have h8 := cnd_t c7 h6
   refine wc_seq_mid [(2, rB (bif decide (c.fInt = 0) then ((decide (c.fStr = ([] : Str))) && (decide (c.fN = 0))) else ((decide (c.fInt = 1)) && ((decide (c.fStr = ([] : Str))) && (decide (c.fN = 0))))))] [] ?_ ?_
   ·refine wc_region (wv (o_fieldAddr Tryd.underlying54 rfl Tryd.sizeOf3 rfl rfl) (wv (o_load (i := 0) Tryd.isAgg3 rfl rfl rfl) (wv (o_eq rfl rfl) (wm rfl (bsplit (decide (c.fInt = 0)) (fun c9 => ?_) (fun c9 => ?_))))))
    ·refine wf c9 (wf c9 (wf c9 (wv (r := rB true) (o_pick_t (b := decide (c.fInt = 0)) rfl c9 rfl) (wm rfl (wl_on (b := true) rfl rfl rfl (wv (o_fieldAddr Tryd.underlying54 rfl Tryd.sizeOf9 rfl rfl) (wl_on (b := true) rfl rfl rfl (wv (o_load (i := 0) Tryd.isAgg9 rfl rfl rfl) (wl_on (b := true) rfl rfl rfl (wv (o_seq rfl rfl) (wv (r := rB (decide (c.fStr = ([] : Str)))) (o_pick_t (b := true) rfl rfl rfl) (wm rfl (bsplit (decide (c.fStr = ([] : Str))) (fun c10 => ?_) (fun c10 => ?_))))))))))))))
     ·refine wo c10 (wv (o_fieldAddr Tryd.underlying54 rfl Tryd.sizeOf3 rfl rfl) (wo c10 (wv (o_load (i := 0) Tryd.isAgg3 rfl rfl rfl) (wo c10 (wv (o_eq rfl rfl) (wpt rfl c10 rfl (wa rfl (wl_nil ?_))))))))
      exact wtc (And.intro c9 c10)
     ·refine wf c10 (wf c10 (wf c10 (wv (r := rB false) (o_pick_f (b := decide (c.fStr = ([] : Str))) rfl c10 rfl) (wa rfl (wl_nil ?_)))))
      exact wtc (And.intro c9 c10)
    ·refine wo c9 (wv (o_fieldAddr Tryd.underlying54 rfl Tryd.sizeOf3 rfl rfl) (wo c9 (wv (o_load (i := 0) Tryd.isAgg3 rfl rfl rfl) (wo c9 (wv (o_eq rfl rfl) (wpf rfl c9 rfl (wm rfl (bsplit (decide (c.fInt = 1)) (fun c11 => ?_) (fun c11 => ?_)))))))))
     ·refine wo c11 (wv (o_fieldAddr Tryd.underlying54 rfl Tryd.sizeOf9 rfl rfl) (wo c11 (wv (o_load (i := 0) Tryd.isAgg9 rfl rfl rfl) (wo c11 (wv (o_seq rfl rfl) (wpt rfl c11 rfl (wm rfl (bsplit (decide (c.fStr = ([] : Str))) (fun c12 => ?_) (fun c12 => ?_)))))))))
      ·refine wo c12 (wv (o_fieldAddr Tryd.underlying54 rfl Tryd.sizeOf3 rfl rfl) (wo c12 (wv (o_load (i := 0) Tryd.isAgg3 rfl rfl rfl) (wo c12 (wv (o_eq rfl rfl) (wpt rfl c12 rfl (wa rfl (wl_nil ?_))))))))
       exact wtc (And.intro c9 (And.intro c11 c12))
      ·refine wf c12 (wf c12 (wf c12 (wv (r := rB false) (o_pick_f (b := decide (c.fStr = ([] : Str))) rfl c12 rfl) (wa rfl (wl_nil ?_)))))
       exact wtc (And.intro c9 (And.intro c11 c12))
     ·refine wf c11 (wf c11 (wf c11 (wv (r := rB false) (o_pick_f (b := decide (c.fInt = 1)) rfl c11 rfl) (wm rfl (wl_off (b := false) rfl rfl rfl rfl (wl_off (b := false) rfl rfl rfl rfl (wl_off (b := false) rfl rfl rfl rfl (wv (r := rB false) (o_pick_f (b := false) rfl rfl rfl) (wa rfl (wl_nil ?_))))))))))
      exact wtc (And.intro c9 c11)
   refine wc_ret (wk_in_ret (wk_then_ret ?_))
   obtain rfl := some_e h8
   exact wk_ret (r_1 Tryd.results54 (rv_t rfl)) sN ⟨rfl, rfl⟩
  ·have h13 := cnd_f c7 h6
   refine wc_sr (wv (o_eq rfl rfl) (wa rfl (wl_x (wc_cond (b := decide (c.fKind = 3)) rfl (fun c14 => ?_) (fun c14 => ?_)))))
   ·have h15 := cnd_t c14 h13
    refine wc_seq_mid [(2, rB ((decide (c.fStr = ([] : Str))) && (decide (c.fN = 0))))] [] ?_ ?_
    ·refine wc_region (wv (o_fieldAddr Tryd.underlying54 rfl Tryd.sizeOf9 rfl rfl) (wv (o_load (i := 0) Tryd.isAgg9 rfl rfl rfl) (wv (o_seq rfl rfl) (wm rfl (bsplit (decide (c.fStr = ([] : Str))) (fun c16 => ?_) (fun c16 => ?_))))))
     ·refine wo c16 (wv (o_fieldAddr Tryd.underlying54 rfl Tryd.sizeOf3 rfl rfl) (wo c16 (wv (o_load (i := 0) Tryd.isAgg3 rfl rfl rfl) (wo c16 (wv (o_eq rfl rfl) (wpt rfl c16 rfl (wa rfl (wl_nil ?_))))))))
      exact wtc c16
     ·refine wf c16 (wf c16 (wf c16 (wv (r := rB false) (o_pick_f (b := decide (c.fStr = ([] : Str))) rfl c16 rfl) (wa rfl (wl_nil ?_)))))
      exact wtc c16
    refine wc_ret (wk_in_ret (wk_then_ret ?_))
    obtain rfl := some_e h15
    exact wk_ret (r_1 Tryd.results54 (rv_t rfl)) sN ⟨rfl, rfl⟩
   ·have h17 := cnd_f c14 h13
    refine wc_sr (wv (o_eq rfl rfl) (wa rfl (wl_x (wc_cond (b := decide (c.fKind = 4)) rfl (fun c18 => ?_) (fun c18 => ?_)))))
    ·have h19 := cnd_t c18 h17
     obtain ⟨g20, h21⟩ := chk_e h19
     refine wc_seq_mid [(2, rB ((decide (c.fInt = 0)) && ((decide (c.fN = 0)) && (ov (vText F c.fStr)))))] [] ?_ ?_
     ·refine wc_region (wv (o_fieldAddr Tryd.underlying54 rfl Tryd.sizeOf3 rfl rfl) (wv (o_load (i := 0) Tryd.isAgg3 rfl rfl rfl) (wv (o_eq rfl rfl) (wm rfl (bsplit (decide (c.fInt = 0)) (fun c22 => ?_) (fun c22 => ?_))))))
      ·refine wo c22 (wv (o_fieldAddr Tryd.underlying54 rfl Tryd.sizeOf3 rfl rfl) (wo c22 (wv (o_load (i := 0) Tryd.isAgg3 rfl rfl rfl) (wo c22 (wv (o_eq rfl rfl) (wpt rfl c22 rfl (wm rfl (bsplit (decide (c.fN = 0)) (fun c23 => ?_) (fun c23 => ?_)))))))))
       ·refine wo c23 (wv (o_fieldAddr Tryd.underlying54 rfl Tryd.sizeOf9 rfl rfl) (wo c23 (wv (o_load (i := 0) Tryd.isAgg9 rfl rfl rfl) (wo c23 (wc0 Tryd.call69 (vText_w F c.fStr (ov (vText F c.fStr)) (ov_e (imp_t (imp_t g20 c22) c23))) rfl (wpt rfl c23 rfl (wa rfl (wl_nil ?_))))))))
        exact wtc (And.intro c22 c23)
       ·refine wf c23 (wf c23 (wf c23 (wv (r := rB false) (o_pick_f (b := decide (c.fN = 0)) rfl c23 rfl) (wa rfl (wl_nil ?_)))))
        exact wtc (And.intro c22 c23)
      ·refine wf c22 (wf c22 (wf c22 (wv (r := rB false) (o_pick_f (b := decide (c.fInt = 0)) rfl c22 rfl) (wm rfl (wl_off (b := false) rfl rfl rfl rfl (wl_off (b := false) rfl rfl rfl rfl (wl_off (b := false) rfl rfl rfl rfl (wv (r := rB false) (o_pick_f (b := false) rfl rfl rfl) (wa rfl (wl_nil ?_))))))))))
       exact wtc c22
     refine wc_ret (wk_in_ret (wk_then_ret ?_))
     obtain rfl := some_e h21
     exact wk_ret (r_1 Tryd.results54 (rv_t rfl)) sN ⟨rfl, rfl⟩
    ·have h24 := cnd_f c18 h17
     refine wc_seq (wc_sr (wv (o_eq rfl rfl) (wa rfl (wl_x (wc_cond (b := decide (c.fKind = 5)) rfl (fun c25 => ?_) (fun c25 => ?_))))))
     ·have h26 := cnd_t c25 h24
      refine wc_skip (wk_x (wc_cond_t rfl c25 (wc_seq_mid [(2, rB ((decide (c.fInt = 0)) && ((decide (c.fStr = ([] : Str))) && (decide (0 ≤ c.fN)))))] [] ?_ ?_)))
      ·refine wc_region (wv (o_fieldAddr Tryd.underlying54 rfl Tryd.sizeOf3 rfl rfl) (wv (o_load (i := 0) Tryd.isAgg3 rfl rfl rfl) (wv (o_eq rfl rfl) (wm rfl (bsplit (decide (c.fInt = 0)) (fun c27 => ?_) (fun c27 => ?_))))))
       ·refine wo c27 (wv (o_fieldAddr Tryd.underlying54 rfl Tryd.sizeOf9 rfl rfl) (wo c27 (wv (o_load (i := 0) Tryd.isAgg9 rfl rfl rfl) (wo c27 (wv (o_seq rfl rfl) (wpt rfl c27 rfl (wm rfl (bsplit (decide (c.fStr = ([] : Str))) (fun c28 => ?_) (fun c28 => ?_)))))))))
        ·refine wo c28 (wv (o_fieldAddr Tryd.underlying54 rfl Tryd.sizeOf3 rfl rfl) (wo c28 (wv (o_load (i := 0) Tryd.isAgg3 rfl rfl rfl) (wo c28 (wv (o_ge rfl rfl) (wpt rfl c28 rfl (wa rfl (wl_nil ?_))))))))
         exact wtc (And.intro c27 c28)
        ·refine wf c28 (wf c28 (wf c28 (wv (r := rB false) (o_pick_f (b := decide (c.fStr = ([] : Str))) rfl c28 rfl) (wa rfl (wl_nil ?_)))))
         exact wtc (And.intro c27 c28)
       ·refine wf c27 (wf c27 (wf c27 (wv (r := rB false) (o_pick_f (b := decide (c.fInt = 0)) rfl c27 rfl) (wm rfl (wl_off (b := false) rfl rfl rfl rfl (wl_off (b := false) rfl rfl rfl rfl (wl_off (b := false) rfl rfl rfl rfl (wv (r := rB false) (o_pick_f (b := false) rfl rfl rfl) (wa rfl (wl_nil ?_))))))))))
        exact wtc c27
      refine wc_ret (wk_in_ret (wk_then_ret ?_))
      obtain rfl := some_e h26
      exact wk_ret (r_1 Tryd.results54 (rv_t rfl)) sN ⟨rfl, rfl⟩
     ·have h29 := cnd_f c25 h24
      refine wc_region (wv (o_eq rfl rfl) (wa rfl (wl_x (wc_cond (b := decide (c.fKind = 6)) rfl (fun c30 => ?_) (fun c30 => ?_)))))
      ·have h31 := cnd_t c30 h29
       refine wc_seq_mid [(2, rB ((decide (c.fInt = 0)) && ((decide (c.fStr = ([] : Str))) && (decide (0 ≤ c.fN)))))] [] ?_ ?_
       ·refine wc_region (wv (o_fieldAddr Tryd.underlying54 rfl Tryd.sizeOf3 rfl rfl) (wv (o_load (i := 0) Tryd.isAgg3 rfl rfl rfl) (wv (o_eq rfl rfl) (wm rfl (bsplit (decide (c.fInt = 0)) (fun c32 => ?_) (fun c32 => ?_))))))
        ·refine wo c32 (wv (o_fieldAddr Tryd.underlying54 rfl Tryd.sizeOf9 rfl rfl) (wo c32 (wv (o_load (i := 0) Tryd.isAgg9 rfl rfl rfl) (wo c32 (wv (o_seq rfl rfl) (wpt rfl c32 rfl (wm rfl (bsplit (decide (c.fStr = ([] : Str))) (fun c33 => ?_) (fun c33 => ?_)))))))))
         ·refine wo c33 (wv (o_fieldAddr Tryd.underlying54 rfl Tryd.sizeOf3 rfl rfl) (wo c33 (wv (o_load (i := 0) Tryd.isAgg3 rfl rfl rfl) (wo c33 (wv (o_ge rfl rfl) (wpt rfl c33 rfl (wa rfl (wl_nil ?_))))))))
          exact wtc (And.intro c32 c33)
         ·refine wf c33 (wf c33 (wf c33 (wv (r := rB false) (o_pick_f (b := decide (c.fStr = ([] : Str))) rfl c33 rfl) (wa rfl (wl_nil ?_)))))
          exact wtc (And.intro c32 c33)
        ·refine wf c32 (wf c32 (wf c32 (wv (r := rB false) (o_pick_f (b := decide (c.fInt = 0)) rfl c32 rfl) (wm rfl (wl_off (b := false) rfl rfl rfl rfl (wl_off (b := false) rfl rfl rfl rfl (wl_off (b := false) rfl rfl rfl rfl (wv (r := rB false) (o_pick_f (b := false) rfl rfl rfl) (wa rfl (wl_nil ?_))))))))))
         exact wtc c32
       refine wc_ret (wk_in_ret (wk_then_ret ?_))
       obtain rfl := some_e h31
       exact wk_ret (r_1 Tryd.results54 (rv_t rfl)) sN ⟨rfl, rfl⟩
      ·have h34 := cnd_f c30 h29
       refine wc_skip (wk_in_norm (wk_x (wc_sr (wv (r := rB false) (o_assign rfl) (wl_x (wc_ret ?_))))))
       obtain rfl := some_e h34
       exact wk_ret (r_1 Tryd.results54 (rv_t rfl)) (sS sN) ⟨rfl, rfl⟩

theorem vSize_w (c : TApiCell) (r : Int) (h : vSize c = some r) : Fn Tryd.prog GE 56 [rAgg (eTApiCell c)] [] (fun R H => R = rI .i64 r ∧ H = []) := by
 refine enter (n := 28) Tryd.func56 rfl Tryd.ntmps56 rfl (fun w Z => ?_)
 refine wc_as (l' := [(0, rAgg (eTApiCell c))]) (H' := []) rfl rfl ?_
 unfold vSize at h
 refine wc_sr (w_box_agg rfl rfl (fun b1 => ?_))
 refine wv (r := rI .i64 0) (o_assign rfl) (wl_x (wc_seq (wc_sr (wv (o_fieldAddr Tryd.underlying54 rfl Tryd.sizeOf52 rfl rfl) (wv (o_load (i := 0) Tryd.isAgg52 rfl rfl rfl) (wl_x (wc_block (wc_sr (wv (o_eq rfl rfl) (wa rfl (wl_x (wc_cond (b := decide (c.fKind = 1)) rfl (fun c2 => ?_) (fun c2 => ?_)))))))))))))
 ·have h3 := cnd_t c2 h
  refine wc_sr (wv (r := rI .i64 4) (o_assign rfl) (wl_x (wc_ret (wk_in_ret (wk_then_ret ?_)))))
  obtain rfl := some_e h3
  exact wk_ret (r_1 Tryd.results56 (rv_t rfl)) (sS sN) ⟨rfl, rfl⟩
 ·have h4 := cnd_f c2 h
  refine wc_sr (wv (o_eq rfl rfl) (wa rfl (wl_x (wc_cond (b := decide (c.fKind = 2)) rfl (fun c5 => ?_) (fun c5 => ?_)))))
  ·have h6 := cnd_t c5 h4
   refine wc_sr (wv (o_fieldAddr Tryd.underlying54 rfl Tryd.sizeOf3 rfl rfl) (wv (o_load (i := 0) Tryd.isAgg3 rfl rfl rfl) (wv (r := rI .i64 (IntKind.wrap .i64 (5 - c.fInt))) (o_subw rfl rfl) (wa rfl (wl_x (wc_ret (wk_in_ret (wk_then_ret ?_))))))))
   obtain rfl := some_e h6
   exact wk_ret (r_1 Tryd.results56 (rv_t rfl)) (sS sN) ⟨rfl, rfl⟩
  ·have h7 := cnd_f c5 h4
   refine wc_sr (wv (o_eq rfl rfl) (wa rfl (wl_x (wc_cond (b := decide (c.fKind = 3)) rfl (fun c8 => ?_) (fun c8 => ?_)))))
   ·have h9 := cnd_t c8 h7
    refine wc_sr (wv (o_fieldAddr Tryd.underlying54 rfl Tryd.sizeOf3 rfl rfl) (wv (o_load (i := 0) Tryd.isAgg3 rfl rfl rfl) ?_))
    obtain ⟨g10, h11⟩ := chk_e h9
    refine w_call0 (rs := [rI .i64 c.fInt]) (r := rS (Lib.itoa c.fInt)) Tryd.call17 rfl (format_q c.fInt g10) rfl rfl (wv (o_len_s Tryd.underlying9 rfl) (wa rfl (wl_x (wc_ret (wk_in_ret (wk_then_ret ?_))))))
    obtain rfl := some_e h11
    exact wk_ret (r_1 Tryd.results56 (rv_t rfl)) (sS sN) ⟨rfl, rfl⟩
   ·have h12 := cnd_f c8 h7
    refine wc_sr (wv (o_eq rfl rfl) (wa rfl (wl_x (wc_cond (b := decide (c.fKind = 4)) rfl (fun c13 => ?_) (fun c13 => ?_)))))
    ·have h14 := cnd_t c13 h12
     refine wc_sr (wv (o_fieldAddr Tryd.underlying54 rfl Tryd.sizeOf9 rfl rfl) (wv (o_load (i := 0) Tryd.isAgg9 rfl rfl rfl) ?_))
     obtain ⟨r15, e17, h16⟩ := obn_e h14
     refine wc0 Tryd.call55 (vQuoted_w c.fStr r15 e17) rfl (wa rfl (wl_x (wc_ret (wk_in_ret (wk_then_ret ?_)))))
     obtain rfl := some_e h16
     exact wk_ret (r_1 Tryd.results56 (rv_t rfl)) (sS sN) ⟨rfl, rfl⟩
    ·have h18 := cnd_f c13 h12
     refine wc_skip (wk_in_norm (wk_x (wc_sr (wv (o_fieldAddr Tryd.underlying54 rfl Tryd.sizeOf3 rfl rfl) (wv (o_load (i := 0) Tryd.isAgg3 rfl rfl rfl) (wv (r := rI .i64 (IntKind.wrap .i64 (c.fN - 1))) (o_subw rfl rfl) (wv (o_max Tryd.underlying3 rfl rfl) (wv (r := rI .i64 (IntKind.wrap .i64 (2 + (max 0 (IntKind.wrap .i64 (c.fN - 1)))))) (o_addw rfl rfl) (wa rfl (wl_x (wc_ret ?_)))))))))))
     obtain rfl := some_e h18
     exact wk_ret (r_1 Tryd.results56 (rv_t rfl)) (sS sN) ⟨rfl, rfl⟩

theorem vClosed_w (F : Nat) (v_stack : Value) (stack : (List TValueOpen)) (r : (List TValueOpen)) (h : vClosed F stack = some r) : Fn Tryd.prog GE 57 [rv v_stack] [.row v_stack 95 5 (List.map eTValueOpen stack)] (fun R H => ∃ u0 : Value, R = rv u0 ∧ H = [.row u0 95 5 (List.map eTValueOpen r)]) := by
 refine enter (n := 38) Tryd.func57 rfl Tryd.ntmps57 rfl (fun w Z => ?_)
 refine wc_as (l' := [(0, rv v_stack)]) (H' := [.row v_stack 95 5 (List.map eTValueOpen stack)]) rfl rfl ?_
 unfold vClosed at h
 refine wc_sr (wv (r := rv (.slice none 0 0)) (o_assign rfl) (wl_x (wc_seq (wc_block ?_))))
 obtain ⟨o186, eo187, hK188⟩ := obn_e h
 refine wc_loop2 (S := Nat × ((List TValueOpen)) × (Value)) (V := ((List TValueOpen)) × (Value)) 0 (fun σ => lop (fun σ => vClosed_b1 σ) σ.1 σ.2.1 = some o186) (fun σ => [(0, rv σ.2.2), (2, rv (.slice none 0 0))]) (fun σ => [.row σ.2.2 95 5 (List.map eTValueOpen σ.2.1)]) (fun σ => σ.1) (F, stack, v_stack) eo187 (Sub.c rfl (Sub.c rfl Sub.nil)) (sC sN) (fun σ => vClosed_k1 σ.1 = some r) (fun σ => [(0, rv σ.2), (2, rv (.slice none 0 0))]) (fun σ => [.row σ.2 95 5 (List.map eTValueOpen σ.1)]) ?_ ?_
 ·rintro ⟨n194, x159, v160⟩ hi192
  refine wc_as (l' := [(0, rv v160), (2, rv (.slice none 0 0))]) (H' := [.row v160 95 5 (List.map eTValueOpen x159)]) rfl rfl ?_
  obtain ⟨m191, rfl, t189, h193, ht190⟩ := lop_e hi192
  replace h193 : vClosed_b1 x159 = some t189 := h193
  unfold vClosed_b1 at h193
  refine wc_seq (wc_sr (wm rfl (wv (o_len_wt (ys := x159) (enc := eTValueOpen) (i := 0) Tryd.underlying92 rfl rfl) (wv (o_gt rfl rfl) (wl_x (wc_cond (b := decide (0 < (x159.length : Int))) rfl (fun c195 => ?_) (fun c195 => ?_)))))))
  ·have h196 := cnd_t c195 h193
   refine wc_skip (wk_x (wc_block (wc_sr (wm rfl (wm rfl (wv (o_len_wt (ys := x159) (enc := eTValueOpen) (i := 0) Tryd.underlying92 rfl rfl) ?_))))))
   obtain ⟨g197, h198⟩ := chk_e h196
   refine wv (o_sub rfl rfl g197) ?_
   obtain ⟨g199, h200⟩ := chk_e h198
   refine wv (r := rv (elp 5 v160 (Int.toNat ((x159.length : Int) - 1)) 0)) (o_ix_w (i := 0) Tryd.underlying92 Tryd.sizeOf95 rfl rfl rfl (len_map g199)) (wa rfl (wl_y (wm rfl (wv (r := rv (elp 5 v160 (Int.toNat ((x159.length : Int) - 1)) 0)) (o_nilcheck_w (k := 0) rfl (len_map g199) rfl rfl) (wv (r := rv (elp 5 v160 (Int.toNat ((x159.length : Int) - 1)) 1)) (o_fa_w (k := 0) Tryd.underlying95 rfl Tryd.sizeOf3 rfl (len_map g199) rfl rfl rfl) (wv (r := rI .i64 ((at' x159 ((x159.length : Int) - 1)).fLeft)) (o_ld_w (enc := eTValueOpen) (ys := x159) (i := 0) (j := (x159.length : Int) - 1) Tryd.isAgg3 rfl rfl g199 rfl) ?_))))))
   obtain ⟨g201, h202⟩ := chk_e h200
   refine wv (o_sub rfl rfl g201) (wv (r := rv (elp 5 v160 (Int.toNat ((x159.length : Int) - 1)) 0)) (o_nilcheck_w (k := 0) rfl (len_map g199) rfl rfl) (wv (r := rv (elp 5 v160 (Int.toNat ((x159.length : Int) - 1)) 1)) (o_fa_w (k := 0) Tryd.underlying95 rfl Tryd.sizeOf3 rfl (len_map g199) rfl rfl rfl) (u_st_w (enc := eTValueOpen) (ys := x159) (y' := (TValueOpen.mk ((at' x159 ((x159.length : Int) - 1)).fPairs) (((at' x159 ((x159.length : Int) - 1)).fLeft) - 1) ((at' x159 ((x159.length : Int) - 1)).fKey) ((at' x159 ((x159.length : Int) - 1)).fLast) ((at' x159 ((x159.length : Int) - 1)).fStarted))) (i := 0) (j := (x159.length : Int) - 1) Tryd.sizeOf3 rfl rfl (one_c rfl) rfl g199 rfl rfl (H' := [.row v160 95 5 (List.map eTValueOpen (List.set x159 (Int.toNat ((x159.length : Int) - 1)) (TValueOpen.mk ((at' x159 ((x159.length : Int) - 1)).fPairs) (((at' x159 ((x159.length : Int) - 1)).fLeft) - 1) ((at' x159 ((x159.length : Int) - 1)).fKey) ((at' x159 ((x159.length : Int) - 1)).fLast) ((at' x159 ((x159.length : Int) - 1)).fStarted))))]) rfl ?_)))
   obtain ⟨r203, e205, h204⟩ := bnd_e h202
   rw [← e205]
   refine wl_x (wc_seq (wc_sr (wm rfl (wv (r := rv (elp 5 v160 (Int.toNat ((x159.length : Int) - 1)) 0)) (o_nilcheck_w (k := 0) rfl (len_map (inR_set g199 e205)) rfl rfl) (wv (r := rv (elp 5 v160 (Int.toNat ((x159.length : Int) - 1)) 1)) (o_fa_w (k := 0) Tryd.underlying95 rfl Tryd.sizeOf3 rfl (len_map (inR_set g199 e205)) rfl rfl rfl) (wv (r := rI .i64 ((at' r203 ((x159.length : Int) - 1)).fLeft)) (o_ld_w (enc := eTValueOpen) (ys := r203) (i := 0) (j := (x159.length : Int) - 1) Tryd.isAgg3 rfl rfl (inR_set g199 e205) rfl) (wv (o_gt rfl rfl) (wl_x (wc_cond (b := decide (0 < ((at' r203 ((x159.length : Int) - 1)).fLeft))) rfl (fun c206 => ?_) (fun c206 => ?_))))))))))
   ·have h207 := cnd_t c206 h204
    refine wc_sr (wm rfl (wm rfl (wv (r := rv (elp 5 v160 (Int.toNat ((x159.length : Int) - 1)) 0)) (o_nilcheck_w (k := 0) rfl (len_map (inR_set g199 e205)) rfl rfl) (wv (r := rv (elp 5 v160 (Int.toNat ((x159.length : Int) - 1)) 0)) (o_fa_w (k := 0) Tryd.underlying95 rfl Tryd.sizeOf4 rfl (len_map (inR_set g199 e205)) rfl rfl rfl) (wv (r := rB ((at' r203 ((x159.length : Int) - 1)).fPairs)) (o_ld_w (enc := eTValueOpen) (ys := r203) (i := 0) (j := (x159.length : Int) - 1) Tryd.isAgg4 rfl rfl (inR_set g199 e205) rfl) (wv (r := rv (elp 5 v160 (Int.toNat ((x159.length : Int) - 1)) 0)) (o_nilcheck_w (k := 0) rfl (len_map (inR_set g199 e205)) rfl rfl) (wv (r := rv (elp 5 v160 (Int.toNat ((x159.length : Int) - 1)) 2)) (o_fa_w (k := 0) Tryd.underlying95 rfl Tryd.sizeOf4 rfl (len_map (inR_set g199 e205)) rfl rfl rfl) (u_st_w (enc := eTValueOpen) (ys := r203) (y' := (TValueOpen.mk ((at' r203 ((x159.length : Int) - 1)).fPairs) ((at' r203 ((x159.length : Int) - 1)).fLeft) ((at' r203 ((x159.length : Int) - 1)).fPairs) ((at' r203 ((x159.length : Int) - 1)).fLast) ((at' r203 ((x159.length : Int) - 1)).fStarted))) (i := 0) (j := (x159.length : Int) - 1) Tryd.sizeOf4 rfl rfl (one_c rfl) rfl (inR_set g199 e205) rfl rfl (H' := [.row v160 95 5 (List.map eTValueOpen (List.set r203 (Int.toNat ((x159.length : Int) - 1)) (TValueOpen.mk ((at' r203 ((x159.length : Int) - 1)).fPairs) ((at' r203 ((x159.length : Int) - 1)).fLeft) ((at' r203 ((x159.length : Int) - 1)).fPairs) ((at' r203 ((x159.length : Int) - 1)).fLast) ((at' r203 ((x159.length : Int) - 1)).fStarted))))]) rfl ?_))))))))
    obtain ⟨r208, e210, h209⟩ := bnd_e h207
    rw [← e210]
    refine wl_y (wm rfl (wa rfl (wl_x (wc_ret (wk_then_ret (wk_in_ret (wk_then_ret (wk_cut_ret ?_))))))))
    have h211 := stp_ret h209 ht190 hK188
    refine wk_in_ret (wk_then_ret ?_)
    obtain rfl := some_e h211
    exact wk_ret (r_1 Tryd.results57 (rv_t rfl)) (sC sN) ⟨v160, rfl, rfl⟩
   ·have h212 := cnd_f c206 h204
    refine wc_skip (wk_x (wc_region (wm rfl (wm rfl (wv (o_len_wt (ys := r203) (enc := eTValueOpen) (i := 0) Tryd.underlying92 rfl rfl) ?_)))))
    obtain ⟨g213, h214⟩ := chk_e h212
    refine wv (o_sub rfl rfl g213) ?_
    obtain ⟨g216, h217⟩ := chk_e h214
    refine w_cut (i := 0) Tryd.underlying92 Tryd.sizeOf95 rfl rfl rfl g216 rfl (fun v215 => ?_)
    refine wa rfl (wl_nil (wk_in_norm ?_))
    have h218 := stp_next h217 ht190
    exact wk_then (wk_some (m191, List.take (Int.toNat ((r203.length : Int) - 1)) r203, v215) ⟨h218, Nat.lt_succ_self _⟩ (Sub.c rfl (Sub.c rfl Sub.nil)) (sC sN))
  ·have h219 := cnd_f c195 h193
   refine wc_exit (wk_then_exit ?_)
   have h220 := stp_go h219 ht190 hK188
   exact wk_then_exit (wk_cut_hit (wk_some (x159, v160) h220 (Sub.c rfl (Sub.c rfl Sub.nil)) (sC sN)))
 ·rintro ⟨x184, v185⟩ h221
  refine wk_as (l' := [(0, rv v185), (2, rv (.slice none 0 0))]) (H' := [.row v185 95 5 (List.map eTValueOpen x184)]) rfl rfl ?_
  replace h221 : vClosed_k1 x184 = some r := h221
  unfold vClosed_k1 at h221
  refine wk_in_hit (wk_x (wc_sr (wm rfl (wa rfl (wl_x (wc_ret ?_))))))
  obtain rfl := some_e h221
  exact wk_ret (r_1 Tryd.results57 (rv_t rfl)) (sC sN) ⟨v185, rfl, rfl⟩

theorem vLook_w (F : Nat) (v : (List TApiCell)) (r : Int × TValueShape × Bool) (h : vLook F v = some r) : Fn Tryd.prog GE 38 [rSl 4 (List.map eTApiCell v)] [] (fun R H => R = rTup [rI .i64 r.1, rAgg (eTValueShape r.2.1), rB r.2.2] ∧ H = []) := by
 refine enter (n := 152) Tryd.func38 rfl Tryd.ntmps38 rfl (fun w Z => ?_)
 refine wc_as (l' := [(0, rSl 4 (List.map eTApiCell v))]) (H' := []) rfl rfl ?_
 unfold vLook at h
 refine wc_sr (wv (r := rI .i64 0) (o_assign rfl) (w_alloc (cs := [rI .i64 0, rI .i64 0, rB false, rB false]) Tryd.zeroValue80 rfl rfl (fun b1 => ?_)))
 refine wv (r := rB false) (o_assign rfl) (wl_x (wc_scope (wc_sr (w_alloc (cs := [rI .i64 0, rI .i64 0, rB false, rB false]) Tryd.zeroValue80 rfl rfl (fun b2 => ?_)))))
 refine wl_y (wv (r := rv (.slice none 0 0)) (o_assign rfl) (wl_x (wc_seq (wc_label (wk_x (wc_seq (wc_sr (wm rfl (wv (o_len_zt (ys := v) (enc := eTApiCell) Tryd.underlying22 rfl) (wv (r := rI .i64 0) (o_move rfl) (wl_x (wc_block (WC.nilrow (e := 95) (sz := 5) (wc_perm (H2 := [.blk b2 [rI .i64 0, rI .i64 0, rB false, rB false] 80, .blk b1 [rI .i64 0, rI .i64 0, rB false, rB false] 80, .row (.slice none 0 0                                                                                               ) 95 5 (List.map eTValueOpen ([] : List TValueOpen))]) ((perm_front (i := 1) rfl).trans (List.Perm.cons _ ((perm_front (i := 1) rfl).trans (List.Perm.cons _ (List.Perm.refl _))))) ?_))))))))))))))
 obtain ⟨o387, eo388, hK389⟩ := obn_e h
 refine wc_loop2 (S := Nat × ((List TValueOpen) × Int × TValueShape) × (Value)) (V := (TValueShape) × (Unit)) 0 (fun σ => lop (fun σ => vLook_b1 F v σ.1 σ.2.1 σ.2.2) σ.1 σ.2.1 = some o387) (fun σ => [(0, rSl 4 (List.map eTApiCell v)), (3, rv (.pointer (some ⟨b1, 0, none⟩))), (5, rv (.pointer (some ⟨b2, 0, none⟩))), (6, rv σ.2.2), (11, rSl 4 (List.map eTApiCell v)), (12, rI .i64 (v.length : Int)), (13, rI .i64 σ.2.1.2.1)]) (fun σ => [.blk b2 (eTValueShape σ.2.1.2.2) 80, .blk b1 [rI .i64 0, rI .i64 0, rB false, rB false] 80, .row σ.2.2 95 5 (List.map eTValueOpen σ.2.1.1)]) (fun σ => σ.1) (F, (([] : List TValueOpen), 0, (TValueShape.mk 0 0 false false)), (.slice none 0 0                                                                                               )) eo388 (Sub.c rfl (Sub.c rfl (Sub.c5 rfl rfl rfl rfl rfl Sub.nil))) (sC (sC (sC sN))) (fun σ => vLook_k1 σ.1 = some r) (fun σ => [(3, rv (.pointer (some ⟨b1, 0, none⟩))), (5, rv (.pointer (some ⟨b2, 0, none⟩)))]) (fun σ => [.blk b2 (eTValueShape σ.1) 80, .blk b1 [rI .i64 0, rI .i64 0, rB false, rB false] 80]) ?_ ?_
 ·rintro ⟨n395, ⟨x233, x235, x236⟩, v234⟩ hi393
  refine wc_as (l' := [(0, rSl 4 (List.map eTApiCell v)), (3, rv (.pointer (some ⟨b1, 0, none⟩))), (5, rv (.pointer (some ⟨b2, 0, none⟩))), (6, rv v234), (11, rSl 4 (List.map eTApiCell v)), (12, rI .i64 (v.length : Int)), (13, rI .i64 x235)]) (H' := [.blk b2 (eTValueShape x236) 80, .blk b1 [rI .i64 0, rI .i64 0, rB false, rB false] 80, .row v234 95 5 (List.map eTValueOpen x233)]) rfl rfl ?_
  obtain ⟨m392, rfl, t390, h394, ht391⟩ := lop_e hi393
  replace h394 : vLook_b1 F v x233 x235 x236 = some t390 := h394
  unfold vLook_b1 at h394
  refine wc_sr (wv (o_lt rfl rfl) (wl_x (wc_seq (wc_cond (b := decide (x235 < (v.length : Int))) rfl (fun c396 => ?_) (fun c396 => ?_)))))
  ·have h397 := cnd_t c396 h394
   refine wc_skip (wk_x (wc_seq_cut (S := ((List TValueOpen) × TValueShape) × (Value)) (fun σ => vLook_j2 x235 σ.1.1 σ.1.2 = some t390) (fun σ => [(0, rSl 4 (List.map eTApiCell v)), (3, rv (.pointer (some ⟨b1, 0, none⟩))), (5, rv (.pointer (some ⟨b2, 0, none⟩))), (6, rv σ.2), (11, rSl 4 (List.map eTApiCell v)), (12, rI .i64 (v.length : Int)), (13, rI .i64 x235)]) (fun σ => [.blk b2 (eTValueShape σ.1.2) 80, .blk b1 [rI .i64 0, rI .i64 0, rB false, rB false] 80, .row σ.2 95 5 (List.map eTValueOpen σ.1.1)]) ?_ ?_))
   ·refine wc_block (wc_sr (wm rfl ?_))
    obtain ⟨g471, h472⟩ := chk_e h397
    refine wv (o_ix_z (enc := eTApiCell) (ys := v) Tryd.underlying22 Tryd.sizeOf54 rfl rfl g471) (wv (o_load_za Tryd.isAgg54 Tryd.sizeOf54 rfl rfl rfl) (w_alloc (cs := [rI .i64 0, rI .i64 0, rS ([] : Str), rI .i64 0]) Tryd.zeroValue54 rfl rfl (fun b473 => ?_)))
    refine wa rfl (u_store_agg (i := 0) Tryd.sizeOf54 rfl rfl rfl (OneAll.c rfl) rfl rfl (cs' := [rI .i64 ((at' v x235).fKind), rI .i64 ((at' v x235).fInt), rS ((at' v x235).fStr), rI .i64 ((at' v x235).fN)]) rfl (H' := [.blk b473 (eTApiCell (at' v x235)) 54, .blk b2 (eTValueShape x236) 80, .blk b1 [rI .i64 0, rI .i64 0, rB false, rB false] 80, .row v234 95 5 (List.map eTValueOpen x233)]) rfl (wl_x (wc_seq (wc_sr (wv (o_load_agg (i := 0) Tryd.isAgg54 Tryd.sizeOf54 rfl rfl rfl rfl) ?_)))))
    obtain ⟨r474, e476, h475⟩ := obn_e h472
    refine wc0 Tryd.call54 (vPlain_w F (at' v x235) r474 e476) rfl (wv (o_not rfl) (wl_x (wc_cond (b := !r474) rfl (fun c477 => ?_) (fun c477 => ?_))))
    ·have h478 := cnd_t c477 h475
     refine wc_seq (wc_rdk (H1 := [.blk b473 (eTApiCell (at' v x235)) 54, .blk b2 (eTValueShape x236) 80, .blk b1 (eTValueShape x236) 80, .row v234 95 5 (List.map eTValueOpen x233)]) [3, 5] [⟨[], rAgg (eTValueShape x236), 1⟩, ⟨[], rI .i64 0, 0⟩, ⟨[0], rv undef, 2⟩, ⟨[], rB false, 0⟩] (rle [(3, _), (2, [.blk b473 (eTApiCell (at' v x235)) 54, .blk b2 (eTValueShape x236) 80, .blk b1 (eTValueShape x236) 80, .row v234 95 5 (List.map eTValueOpen x233)])]) [2, 4, 3] ?_ ?_)
     ·refine of (o_load_agg (i := 1) Tryd.isAgg80 Tryd.sizeOf80 rfl rfl rfl rfl) (oq (o_assign rfl) (obl_l rfl (ok_u (U_u_store_agg (i := 2) Tryd.sizeOf80 rfl rfl rfl (OneAll.c rfl) rfl rfl (cs' := [rI .i64 x236.fDepth, rI .i64 x236.fBytes, rB x236.fOutside, rB x236.fLong]) rfl (H' := [.blk b473 (eTApiCell (at' v x235)) 54, .blk b2 (eTValueShape x236) 80, .blk b1 (eTValueShape x236) 80, .row v234 95 5 (List.map eTValueOpen x233)]) rfl)) ?_))
      refine oq (o_assign rfl) ?_
      exact obl_e
     refine wk_x (wc_ret (wk_then_ret (wk_in_ret (wk_then_ret (wk_then_ret (wk_cut_ret ?_))))))
     have h479 := stp_ret h478 ht391 hK389
     refine wk_in_ret (wk_then_ret (wk_ng_r ?_))
     obtain rfl := some_e h479
     exact wk_ret (r_3 Tryd.results38 (rv_t rfl) (rv_ca (i := 2) Tryd.isAgg80 Tryd.sizeOf80 rfl rfl rfl) (rv_t rfl)) (sS (sS (sS (sS sN)))) ⟨rfl, rfl⟩
    ·have h480 := cnd_f c477 h475
     refine wc_skip (wk_x (wc_seq (wc_sr (wm rfl (wv (o_len_wt (ys := x233) (enc := eTValueOpen) (i := 3) Tryd.underlying92 rfl rfl) (wa rfl (wl_x ?_)))))))
     obtain ⟨g481, h482⟩ := chk_e h480
     obtain ⟨g483, h484⟩ := chk_e h482
     refine wc_seq_mid [(0, rSl 4 (List.map eTApiCell v)), (3, rv (.pointer (some ⟨b1, 0, none⟩))), (5, rv (.pointer (some ⟨b2, 0, none⟩))), (6, rv v234), (7, rI .i64 x235), (8, rv (.pointer (some ⟨b473, 0, none⟩))), (9, rI .i64 (x233.length : Int)), (11, rSl 4 (List.map eTApiCell v)), (12, rI .i64 (v.length : Int)), (13, rI .i64 x235), (33, rB ((decide (0 < (x233.length : Int))) && ((at' x233 ((x233.length : Int) - 1)).fKey)))] [.blk b473 (eTApiCell (at' v x235)) 54, .blk b2 (eTValueShape x236) 80, .blk b1 [rI .i64 0, rI .i64 0, rB false, rB false] 80, .row v234 95 5 (List.map eTValueOpen x233)] ?_ ?_
     ·refine wc_region (wm rfl (wv (o_gt rfl rfl) (wm rfl (bsplit (decide (0 < (x233.length : Int))) (fun c485 => ?_) (fun c485 => ?_)))))
      ·refine wo c485 (wm rfl (wo c485 (wm rfl (wo c485 (wv (o_sub rfl rfl (imp_t g481 c485)) (wo c485 (wv (r := rv (elp 5 v234 (Int.toNat ((x233.length : Int) - 1)) 0)) (o_ix_w (i := 3) Tryd.underlying92 Tryd.sizeOf95 rfl rfl rfl (len_map (imp_t g483 c485))) (wo c485 (wv (r := rv (elp 5 v234 (Int.toNat ((x233.length : Int) - 1)) 2)) (o_fa_w (k := 3) Tryd.underlying95 rfl Tryd.sizeOf4 rfl (len_map (imp_t g483 c485)) rfl rfl rfl) (wo c485 (wv (r := rB ((at' x233 ((x233.length : Int) - 1)).fKey)) (o_ld_w (enc := eTValueOpen) (ys := x233) (i := 3) (j := (x233.length : Int) - 1) Tryd.isAgg4 rfl rfl (imp_t g483 c485) rfl) (wpt rfl c485 rfl (wl_nil ?_)))))))))))))
       exact wtc c485
      ·refine wf c485 (wf c485 (wf c485 (wf c485 (wf c485 (wf c485 (wv (r := rB false) (o_pick_f (b := decide (0 < (x233.length : Int))) rfl c485 rfl) (wl_nil ?_)))))))
       exact wtc c485
     refine wc_cond (b := ((decide (0 < (x233.length : Int))) && ((at' x233 ((x233.length : Int) - 1)).fKey))) rfl (fun c486 => ?_) (fun c486 => ?_)
     ·have h487 := cnd_t c486 h484
      refine wc_sr (wm rfl (wm rfl ?_))
      obtain ⟨g488, h489⟩ := chk_e h487
      refine wv (o_sub rfl rfl g488) ?_
      obtain ⟨g490, h491⟩ := chk_e h489
      refine wv (r := rv (elp 5 v234 (Int.toNat ((x233.length : Int) - 1)) 0)) (o_ix_w (i := 3) Tryd.underlying92 Tryd.sizeOf95 rfl rfl rfl (len_map g490)) (wa rfl (wl_x (wc_seq (wc_seq_mid [(0, rSl 4 (List.map eTApiCell v)), (3, rv (.pointer (some ⟨b1, 0, none⟩))), (5, rv (.pointer (some ⟨b2, 0, none⟩))), (6, rv v234), (8, rv (.pointer (some ⟨b473, 0, none⟩))), (10, rv (elp 5 v234 (Int.toNat ((x233.length : Int) - 1)) 0)), (11, rSl 4 (List.map eTApiCell v)), (12, rI .i64 (v.length : Int)), (13, rI .i64 x235), (38, rv (.pointer (some ⟨b473, 0, none⟩))), (39, rI .i64 ((at' v x235).fKind)), (40, rB (!decide (((at' v x235).fKind) = 4))), (41, rB (!decide (((at' v x235).fKind) = 4))), (55, rB ((!decide (((at' v x235).fKind) = 4)) || (((at' x233 ((x233.length : Int) - 1)).fStarted) && (sLess ((at' v x235).fStr) ((at' x233 ((x233.length : Int) - 1)).fLast) || decide (((at' v x235).fStr) = ((at' x233 ((x233.length : Int) - 1)).fLast))))))] [.blk b473 (eTApiCell (at' v x235)) 54, .blk b2 (eTValueShape x236) 80, .blk b1 [rI .i64 0, rI .i64 0, rB false, rB false] 80, .row v234 95 5 (List.map eTValueOpen x233)] ?_ ?_))))
      ·refine bsplit (!decide (((at' v x235).fKind) = 4)) (fun c492 => ?_) (fun c492 => ?_)
       ·refine wc_rdq [0, 3, 5, 6, 8, 10, 11, 12, 13] [⟨[], rv (.pointer (some ⟨b473, 0, none⟩)), 0⟩, ⟨[0], rI .i64 ((at' v x235).fKind), 1⟩, ⟨[1], rB (!decide (((at' v x235).fKind) = 4)), 0⟩, ⟨[2], rB (!decide (((at' v x235).fKind) = 4)), 0⟩, ⟨[3], rv undef, 0⟩, ⟨[4, 3], rv undef, 0⟩, ⟨[5, 3], rv undef, 0⟩, ⟨[6, 3], rv undef, 0⟩, ⟨[7, 3], rv undef, 0⟩, ⟨[8], rv undef, 0⟩, ⟨[9, 8], rv undef, 0⟩, ⟨[8], rv undef, 0⟩, ⟨[11, 8], rv undef, 0⟩, ⟨[12, 8], rv undef, 0⟩, ⟨[13, 8], rv undef, 0⟩, ⟨[10, 14, 8], rv undef, 0⟩, ⟨[8, 15, 3], rv undef, 0⟩, ⟨[3, 16], rB true, 0⟩] [38, 39, 40, 41, 42, 43, 44, 45, 46, 47, 48, 49, 50, 51, 52, 53, 54, 55, 0, 3, 5, 6, 8, 10, 11, 12, 13] ?_ ?_
        ·refine oq (o_fieldAddr Tryd.underlying54 rfl Tryd.sizeOf52 rfl rfl) (of (o_load (i := 0) Tryd.isAgg52 rfl rfl rfl) (oq (o_ne rfl rfl) (oq (o_move rfl) (oz c492 (oz c492 (oz c492 (oz c492 (oz c492 (ou (ou (ou (ou (ou (ou (ou (oz c492 (oq (o_pick_t (b := !decide (((at' v x235).fKind) = 4)) rfl c492 rfl) ?_)))))))))))))))))
         exact obl_e
        exact wtc c492
       ·refine bsplit ((at' x233 ((x233.length : Int) - 1)).fStarted) (fun c493 => ?_) (fun c493 => ?_)
        ·refine wc_rdq [0, 3, 5, 6, 8, 10, 11, 12, 13] [⟨[], rv (.pointer (some ⟨b473, 0, none⟩)), 0⟩, ⟨[0], rI .i64 ((at' v x235).fKind), 1⟩, ⟨[1], rB (!decide (((at' v x235).fKind) = 4)), 0⟩, ⟨[2], rB (!decide (((at' v x235).fKind) = 4)), 0⟩, ⟨[3], rv (elp 5 v234 (Int.toNat ((x233.length : Int) - 1)) 0), 0⟩, ⟨[4, 3], rv (elp 5 v234 (Int.toNat ((x233.length : Int) - 1)) 0), 1⟩, ⟨[5, 3], rv (elp 5 v234 (Int.toNat ((x233.length : Int) - 1)) 4), 1⟩, ⟨[6, 3], rB ((at' x233 ((x233.length : Int) - 1)).fStarted), 1⟩, ⟨[7, 3], rB ((at' x233 ((x233.length : Int) - 1)).fStarted), 0⟩, ⟨[8], rv (.pointer (some ⟨b473, 2, none⟩)), 0⟩, ⟨[9, 8], rS ((at' v x235).fStr), 1⟩, ⟨[8], rv (elp 5 v234 (Int.toNat ((x233.length : Int) - 1)) 0), 0⟩, ⟨[11, 8], rv (elp 5 v234 (Int.toNat ((x233.length : Int) - 1)) 0), 1⟩, ⟨[12, 8], rv (elp 5 v234 (Int.toNat ((x233.length : Int) - 1)) 3), 1⟩, ⟨[13, 8], rS ((at' x233 ((x233.length : Int) - 1)).fLast), 1⟩, ⟨[10, 14, 8], rB (sLess ((at' v x235).fStr) ((at' x233 ((x233.length : Int) - 1)).fLast) || decide (((at' v x235).fStr) = ((at' x233 ((x233.length : Int) - 1)).fLast))), 0⟩, ⟨[8, 15, 3], rB (sLess ((at' v x235).fStr) ((at' x233 ((x233.length : Int) - 1)).fLast) || decide (((at' v x235).fStr) = ((at' x233 ((x233.length : Int) - 1)).fLast))), 0⟩, ⟨[3, 16], rB (sLess ((at' v x235).fStr) ((at' x233 ((x233.length : Int) - 1)).fLast) || decide (((at' v x235).fStr) = ((at' x233 ((x233.length : Int) - 1)).fLast))), 0⟩] [38, 39, 40, 41, 42, 43, 44, 45, 46, 47, 48, 49, 50, 51, 52, 53, 54, 55, 0, 3, 5, 6, 8, 10, 11, 12, 13] ?_ ?_
         ·refine oq (o_fieldAddr Tryd.underlying54 rfl Tryd.sizeOf52 rfl rfl) (of (o_load (i := 0) Tryd.isAgg52 rfl rfl rfl) (oq (o_ne rfl rfl) (oq (o_move rfl) (on c492 (oq (o_move rfl) (on c492 (of (o_nilcheck_w (k := 3) rfl (len_map g490) rfl rfl) (on c492 (of (o_fa_w (k := 3) Tryd.underlying95 rfl Tryd.sizeOf4 rfl (len_map g490) rfl rfl rfl) (on c492 (of (o_ld_w (enc := eTValueOpen) (ys := x233) (i := 3) (j := (x233.length : Int) - 1) Tryd.isAgg4 rfl rfl g490 rfl) (on c492 (oq (o_move rfl) (on c493 (oq (o_fieldAddr Tryd.underlying54 rfl Tryd.sizeOf9 rfl rfl) (on c493 (of (o_load (i := 0) Tryd.isAgg9 rfl rfl rfl) (on c493 (oq (o_move rfl) (on c493 (of (o_nilcheck_w (k := 3) rfl (len_map g490) rfl rfl) (on c493 (of (o_fa_w (k := 3) Tryd.underlying95 rfl Tryd.sizeOf9 rfl (len_map g490) rfl rfl rfl) ?_)))))))))))))))))))))))
          refine on c493 (of (o_ld_w (enc := eTValueOpen) (ys := x233) (i := 3) (j := (x233.length : Int) - 1) Tryd.isAgg9 rfl rfl g490 rfl) (on c493 (oq (o_sle rfl rfl) (on c492 (oq (o_pick_t rfl c493 rfl) (oq (o_pick_f rfl c492 rfl) ?_))))))
          exact obl_e
         exact wtc (And.intro c492 c493)
        ·refine wc_rdq [0, 3, 5, 6, 8, 10, 11, 12, 13] [⟨[], rv (.pointer (some ⟨b473, 0, none⟩)), 0⟩, ⟨[0], rI .i64 ((at' v x235).fKind), 1⟩, ⟨[1], rB (!decide (((at' v x235).fKind) = 4)), 0⟩, ⟨[2], rB (!decide (((at' v x235).fKind) = 4)), 0⟩, ⟨[3], rv (elp 5 v234 (Int.toNat ((x233.length : Int) - 1)) 0), 0⟩, ⟨[4, 3], rv (elp 5 v234 (Int.toNat ((x233.length : Int) - 1)) 0), 1⟩, ⟨[5, 3], rv (elp 5 v234 (Int.toNat ((x233.length : Int) - 1)) 4), 1⟩, ⟨[6, 3], rB ((at' x233 ((x233.length : Int) - 1)).fStarted), 1⟩, ⟨[7, 3], rB ((at' x233 ((x233.length : Int) - 1)).fStarted), 0⟩, ⟨[8], rv undef, 0⟩, ⟨[9, 8], rv undef, 0⟩, ⟨[8], rv undef, 0⟩, ⟨[11, 8], rv undef, 0⟩, ⟨[12, 8], rv undef, 0⟩, ⟨[13, 8], rv undef, 0⟩, ⟨[10, 14, 8], rv undef, 0⟩, ⟨[8, 15, 3], rB false, 0⟩, ⟨[3, 16], rB false, 0⟩] [38, 39, 40, 41, 42, 43, 44, 45, 46, 47, 48, 49, 50, 51, 52, 53, 54, 55, 0, 3, 5, 6, 8, 10, 11, 12, 13] ?_ ?_
         ·refine oq (o_fieldAddr Tryd.underlying54 rfl Tryd.sizeOf52 rfl rfl) (of (o_load (i := 0) Tryd.isAgg52 rfl rfl rfl) (oq (o_ne rfl rfl) (oq (o_move rfl) (on c492 (oq (o_move rfl) (on c492 (of (o_nilcheck_w (k := 3) rfl (len_map g490) rfl rfl) (on c492 (of (o_fa_w (k := 3) Tryd.underlying95 rfl Tryd.sizeOf4 rfl (len_map g490) rfl rfl rfl) (on c492 (of (o_ld_w (enc := eTValueOpen) (ys := x233) (i := 3) (j := (x233.length : Int) - 1) Tryd.isAgg4 rfl rfl g490 rfl) (on c492 (oq (o_move rfl) (oz c493 (oz c493 (oz c493 (oz c493 (oz c493 (oz c493 (oz c493 (on c492 (oq (o_pick_f (b := (at' x233 ((x233.length : Int) - 1)).fStarted) rfl c493 rfl) (oq (o_pick_f rfl c492 rfl) ?_)))))))))))))))))))))))
          exact obl_e
         exact wtc (And.intro c492 c493)
      refine wc_cond (b := ((!decide (((at' v x235).fKind) = 4)) || (((at' x233 ((x233.length : Int) - 1)).fStarted) && (sLess ((at' v x235).fStr) ((at' x233 ((x233.length : Int) - 1)).fLast) || decide (((at' v x235).fStr) = ((at' x233 ((x233.length : Int) - 1)).fLast)))))) rfl (fun c494 => ?_) (fun c494 => ?_)
      ·have h495 := cnd_t c494 h491
       refine wc_seq (wc_rdk (H1 := [.blk b473 (eTApiCell (at' v x235)) 54, .blk b2 (eTValueShape x236) 80, .blk b1 (eTValueShape x236) 80, .row v234 95 5 (List.map eTValueOpen x233)]) [3, 5] [⟨[], rAgg (eTValueShape x236), 1⟩, ⟨[], rI .i64 0, 0⟩, ⟨[0], rv undef, 2⟩, ⟨[], rB false, 0⟩] (rle [(3, _), (2, [.blk b473 (eTApiCell (at' v x235)) 54, .blk b2 (eTValueShape x236) 80, .blk b1 (eTValueShape x236) 80, .row v234 95 5 (List.map eTValueOpen x233)])]) [2, 4, 3] ?_ ?_)
       ·refine of (o_load_agg (i := 1) Tryd.isAgg80 Tryd.sizeOf80 rfl rfl rfl rfl) (oq (o_assign rfl) (obl_l rfl (ok_u (U_u_store_agg (i := 2) Tryd.sizeOf80 rfl rfl rfl (OneAll.c rfl) rfl rfl (cs' := [rI .i64 x236.fDepth, rI .i64 x236.fBytes, rB x236.fOutside, rB x236.fLong]) rfl (H' := [.blk b473 (eTApiCell (at' v x235)) 54, .blk b2 (eTValueShape x236) 80, .blk b1 (eTValueShape x236) 80, .row v234 95 5 (List.map eTValueOpen x233)]) rfl)) ?_))
        refine oq (o_assign rfl) ?_
        exact obl_e
       refine wk_x (wc_ret (wk_then_ret (wk_then_ret (wk_in_ret (wk_then_ret (wk_then_ret (wk_cut_ret ?_)))))))
       have h496 := stp_ret h495 ht391 hK389
       refine wk_in_ret (wk_then_ret (wk_ng_r ?_))
       obtain rfl := some_e h496
       exact wk_ret (r_3 Tryd.results38 (rv_t rfl) (rv_ca (i := 2) Tryd.isAgg80 Tryd.sizeOf80 rfl rfl rfl) (rv_t rfl)) (sS (sS (sS (sS sN)))) ⟨rfl, rfl⟩
      ·have h497 := cnd_f c494 h491
       refine wc_skip (wk_x (wc_sr (wm rfl (wm rfl (wm rfl (wv (o_fieldAddr Tryd.underlying54 rfl Tryd.sizeOf9 rfl rfl) (wv (o_load (i := 0) Tryd.isAgg9 rfl rfl rfl) (wv (r := rv (elp 5 v234 (Int.toNat ((x233.length : Int) - 1)) 0)) (o_nilcheck_w (k := 3) rfl (len_map g490) rfl rfl) (wv (r := rv (elp 5 v234 (Int.toNat ((x233.length : Int) - 1)) 3)) (o_fa_w (k := 3) Tryd.underlying95 rfl Tryd.sizeOf9 rfl (len_map g490) rfl rfl rfl) (u_st_w (enc := eTValueOpen) (ys := x233) (y' := (TValueOpen.mk ((at' x233 ((x233.length : Int) - 1)).fPairs) ((at' x233 ((x233.length : Int) - 1)).fLeft) ((at' x233 ((x233.length : Int) - 1)).fKey) ((at' v x235).fStr) ((at' x233 ((x233.length : Int) - 1)).fStarted))) (i := 3) (j := (x233.length : Int) - 1) Tryd.sizeOf9 rfl rfl (one_c rfl) rfl g490 rfl rfl (H' := [.blk b473 (eTApiCell (at' v x235)) 54, .blk b2 (eTValueShape x236) 80, .blk b1 [rI .i64 0, rI .i64 0, rB false, rB false] 80, .row v234 95 5 (List.map eTValueOpen (List.set x233 (Int.toNat ((x233.length : Int) - 1)) (TValueOpen.mk ((at' x233 ((x233.length : Int) - 1)).fPairs) ((at' x233 ((x233.length : Int) - 1)).fLeft) ((at' x233 ((x233.length : Int) - 1)).fKey) ((at' v x235).fStr) ((at' x233 ((x233.length : Int) - 1)).fStarted))))]) rfl ?_))))))))))
       obtain ⟨r498, e500, h499⟩ := bnd_e h497
       rw [← e500]
       refine wv (r := rv (elp 5 v234 (Int.toNat ((x233.length : Int) - 1)) 0)) (o_nilcheck_w (k := 3) rfl (len_map (inR_set g490 e500)) rfl rfl) (wv (r := rv (elp 5 v234 (Int.toNat ((x233.length : Int) - 1)) 4)) (o_fa_w (k := 3) Tryd.underlying95 rfl Tryd.sizeOf4 rfl (len_map (inR_set g490 e500)) rfl rfl rfl) (u_st_w (enc := eTValueOpen) (ys := r498) (y' := (TValueOpen.mk ((at' r498 ((x233.length : Int) - 1)).fPairs) ((at' r498 ((x233.length : Int) - 1)).fLeft) ((at' r498 ((x233.length : Int) - 1)).fKey) ((at' r498 ((x233.length : Int) - 1)).fLast) true)) (i := 3) (j := (x233.length : Int) - 1) Tryd.sizeOf4 rfl rfl (one_c rfl) rfl (inR_set g490 e500) rfl rfl (H' := [.blk b473 (eTApiCell (at' v x235)) 54, .blk b2 (eTValueShape x236) 80, .blk b1 [rI .i64 0, rI .i64 0, rB false, rB false] 80, .row v234 95 5 (List.map eTValueOpen (List.set r498 (Int.toNat ((x233.length : Int) - 1)) (TValueOpen.mk ((at' r498 ((x233.length : Int) - 1)).fPairs) ((at' r498 ((x233.length : Int) - 1)).fLeft) ((at' r498 ((x233.length : Int) - 1)).fKey) ((at' r498 ((x233.length : Int) - 1)).fLast) true)))]) rfl ?_))
       obtain ⟨r501, e503, h502⟩ := bnd_e h499
       rw [← e503]
       refine wv (r := rv (elp 5 v234 (Int.toNat ((x233.length : Int) - 1)) 0)) (o_nilcheck_w (k := 3) rfl (len_map (inR_set (inR_set g490 e500) e503)) rfl rfl) (wv (r := rv (elp 5 v234 (Int.toNat ((x233.length : Int) - 1)) 2)) (o_fa_w (k := 3) Tryd.underlying95 rfl Tryd.sizeOf4 rfl (len_map (inR_set (inR_set g490 e500) e503)) rfl rfl rfl) (u_st_w (enc := eTValueOpen) (ys := r501) (y' := (TValueOpen.mk ((at' r501 ((x233.length : Int) - 1)).fPairs) ((at' r501 ((x233.length : Int) - 1)).fLeft) false ((at' r501 ((x233.length : Int) - 1)).fLast) ((at' r501 ((x233.length : Int) - 1)).fStarted))) (i := 3) (j := (x233.length : Int) - 1) Tryd.sizeOf4 rfl rfl (one_c rfl) rfl (inR_set (inR_set g490 e500) e503) rfl rfl (H' := [.blk b473 (eTApiCell (at' v x235)) 54, .blk b2 (eTValueShape x236) 80, .blk b1 [rI .i64 0, rI .i64 0, rB false, rB false] 80, .row v234 95 5 (List.map eTValueOpen (List.set r501 (Int.toNat ((x233.length : Int) - 1)) (TValueOpen.mk ((at' r501 ((x233.length : Int) - 1)).fPairs) ((at' r501 ((x233.length : Int) - 1)).fLeft) false ((at' r501 ((x233.length : Int) - 1)).fLast) ((at' r501 ((x233.length : Int) - 1)).fStarted))))]) rfl ?_))
       obtain ⟨r504, e506, h505⟩ := bnd_e h502
       rw [← e506]
       refine wl_x (wc_seq ?_)
       obtain ⟨r507, e509, h508⟩ := obn_e h505
       obtain ⟨g510, h511⟩ := chk_e h508
       refine wc_rdk (H1 := [.blk b473 (eTApiCell (at' v x235)) 54, .blk b2 [rI .i64 x236.fDepth, rI .i64 (IntKind.wrap .i64 (x236.fBytes + (r507 + 1))), rB x236.fOutside, rB x236.fLong] 80, .blk b1 [rI .i64 0, rI .i64 0, rB false, rB false] 80, .row v234 95 5 (List.map eTValueOpen r504)]) [0, 3, 5, 6, 8, 11, 12, 13, 38, 39, 40, 41] [⟨[], rv (.pointer (some ⟨b2, 1, none⟩)), 0⟩, ⟨[0], rI .i64 x236.fBytes, 1⟩, ⟨[], rv (.pointer (some ⟨b473, 2, none⟩)), 0⟩, ⟨[2], rS ((at' v x235).fStr), 1⟩, ⟨[3], rI .i64 r507, 0⟩, ⟨[4], rI .i64 (r507 + 1), 0⟩, ⟨[1, 5], rI .i64 (IntKind.wrap .i64 (x236.fBytes + (r507 + 1))), 0⟩, ⟨[], rv (.pointer (some ⟨b2, 1, none⟩)), 0⟩, ⟨[7, 6], rv undef, 2⟩] (rle [(9, _), (1, [.blk b473 (eTApiCell (at' v x235)) 54, .blk b2 [rI .i64 x236.fDepth, rI .i64 (IntKind.wrap .i64 (x236.fBytes + (r507 + 1))), rB x236.fOutside, rB x236.fLong] 80, .blk b1 [rI .i64 0, rI .i64 0, rB false, rB false] 80, .row v234 95 5 (List.map eTValueOpen r504)])]) [68, 69, 70, 71, 72, 73, 74, 75, 0, 3, 5, 6, 8, 11, 12, 13, 38, 39, 40, 41] ?_ ?_
       ·refine oq (o_fieldAddr Tryd.underlying80 rfl Tryd.sizeOf3 rfl rfl) (of (o_load (i := 1) Tryd.isAgg3 rfl rfl rfl) (oq (o_fieldAddr Tryd.underlying54 rfl Tryd.sizeOf9 rfl rfl) (of (o_load (i := 0) Tryd.isAgg9 rfl rfl rfl) (obl_q rfl (fun H => ok_c0 Tryd.call55 (vQuoted_w ((at' v x235).fStr) r507 e509) rfl) ?_))))
        refine oq (o_add rfl rfl g510) (oq (o_addw rfl rfl) (oq (o_fieldAddr Tryd.underlying80 rfl Tryd.sizeOf3 rfl rfl) (obl_l rfl (ok_u (U_u_store (i := 1) Tryd.sizeOf3 rfl rfl (one_c rfl) rfl rfl (cs' := [rI .i64 x236.fDepth, rI .i64 (IntKind.wrap .i64 (x236.fBytes + (r507 + 1))), rB x236.fOutside, rB x236.fLong]) rfl (H' := [.blk b473 (eTApiCell (at' v x235)) 54, .blk b2 [rI .i64 x236.fDepth, rI .i64 (IntKind.wrap .i64 (x236.fBytes + (r507 + 1))), rB x236.fOutside, rB x236.fLong] 80, .blk b1 [rI .i64 0, rI .i64 0, rB false, rB false] 80, .row v234 95 5 (List.map eTValueOpen r504)]) rfl)) ?_)))
        exact obl_e
       refine wk_x (wc_seq_mid [(0, rSl 4 (List.map eTApiCell v)), (3, rv (.pointer (some ⟨b1, 0, none⟩))), (5, rv (.pointer (some ⟨b2, 0, none⟩))), (6, rv v234), (11, rSl 4 (List.map eTApiCell v)), (12, rI .i64 (v.length : Int)), (13, rI .i64 x235), (38, rv (.pointer (some ⟨b473, 0, none⟩))), (39, rI .i64 ((at' v x235).fKind)), (40, rB (!decide (((at' v x235).fKind) = 4))), (41, rB (!decide (((at' v x235).fKind) = 4))), (68, rv (.pointer (some ⟨b2, 1, none⟩))), (69, rI .i64 x236.fBytes), (70, rv (.pointer (some ⟨b473, 2, none⟩))), (71, rS ((at' v x235).fStr)), (72, rI .i64 r507), (73, rI .i64 (r507 + 1)), (74, rI .i64 (IntKind.wrap .i64 (x236.fBytes + (r507 + 1)))), (75, rv (.pointer (some ⟨b2, 1, none⟩)))] [.blk b473 (eTApiCell (at' v x235)) 54, .blk b2 [rI .i64 x236.fDepth, rI .i64 (IntKind.wrap .i64 (x236.fBytes + (r507 + 1))), rB x236.fOutside, rB (x236.fLong || (decide (200 < (((at' v x235).fStr).length : Int))))] 80, .blk b1 [rI .i64 0, rI .i64 0, rB false, rB false] 80, .row v234 95 5 (List.map eTValueOpen r504)] ?_ ?_)
       ·refine wc_region (wv (o_fieldAddr Tryd.underlying80 rfl Tryd.sizeOf4 rfl rfl) (wv (o_load (i := 1) Tryd.isAgg4 rfl rfl rfl) (wm rfl (bsplit (x236.fLong) (fun c512 => ?_) (fun c512 => ?_)))))
        ·refine wf c512 (wf c512 (wf c512 (wf c512 (wv (r := rB true) (o_pick_t (b := x236.fLong) rfl c512 rfl) (wv (o_fieldAddr Tryd.underlying80 rfl Tryd.sizeOf4 rfl rfl) (u_store (i := 1) Tryd.sizeOf4 rfl rfl (one_c rfl) rfl rfl (cs' := [rI .i64 x236.fDepth, rI .i64 (IntKind.wrap .i64 (x236.fBytes + (r507 + 1))), rB x236.fOutside, rB true]) rfl (H' := [.blk b473 (eTApiCell (at' v x235)) 54, .blk b2 [rI .i64 x236.fDepth, rI .i64 (IntKind.wrap .i64 (x236.fBytes + (r507 + 1))), rB x236.fOutside, rB true] 80, .blk b1 [rI .i64 0, rI .i64 0, rB false, rB false] 80, .row v234 95 5 (List.map eTValueOpen r504)]) rfl (wl_nil (wk_asH (H' := [.blk b473 (eTApiCell (at' v x235)) 54, .blk b2 [rI .i64 x236.fDepth, rI .i64 (IntKind.wrap .i64 (x236.fBytes + (r507 + 1))), rB x236.fOutside, rB (x236.fLong || (decide (200 < (((at' v x235).fStr).length : Int))))] 80, .blk b1 [rI .i64 0, rI .i64 0, rB false, rB false] 80, .row v234 95 5 (List.map eTValueOpen r504)]) (by simp only [c512, Bool.true_and, Bool.false_and, Bool.true_or, Bool.false_or, Bool.and_true, Bool.and_false, Bool.or_true, Bool.or_false, Bool.not_true, Bool.not_false, cond_true, cond_false]) ?_))))))))
         exact wt
        ·refine wo c512 (wv (o_fieldAddr Tryd.underlying54 rfl Tryd.sizeOf9 rfl rfl) (wo c512 (wv (o_load (i := 0) Tryd.isAgg9 rfl rfl rfl) (wo c512 (wv (o_len_s Tryd.underlying9 rfl) (wo c512 (wv (o_gt rfl rfl) (wpf rfl c512 rfl (wv (o_fieldAddr Tryd.underlying80 rfl Tryd.sizeOf4 rfl rfl) (u_store (i := 1) Tryd.sizeOf4 rfl rfl (one_c rfl) rfl rfl (cs' := [rI .i64 x236.fDepth, rI .i64 (IntKind.wrap .i64 (x236.fBytes + (r507 + 1))), rB x236.fOutside, rB (decide (200 < (((at' v x235).fStr).length : Int)))]) rfl (H' := [.blk b473 (eTApiCell (at' v x235)) 54, .blk b2 [rI .i64 x236.fDepth, rI .i64 (IntKind.wrap .i64 (x236.fBytes + (r507 + 1))), rB x236.fOutside, rB (decide (200 < (((at' v x235).fStr).length : Int)))] 80, .blk b1 [rI .i64 0, rI .i64 0, rB false, rB false] 80, .row v234 95 5 (List.map eTValueOpen r504)]) rfl (wl_nil (wk_asH (H' := [.blk b473 (eTApiCell (at' v x235)) 54, .blk b2 [rI .i64 x236.fDepth, rI .i64 (IntKind.wrap .i64 (x236.fBytes + (r507 + 1))), rB x236.fOutside, rB (x236.fLong || (decide (200 < (((at' v x235).fStr).length : Int))))] 80, .blk b1 [rI .i64 0, rI .i64 0, rB false, rB false] 80, .row v234 95 5 (List.map eTValueOpen r504)]) (by simp only [c512, Bool.true_and, Bool.false_and, Bool.true_or, Bool.false_or, Bool.and_true, Bool.and_false, Bool.or_true, Bool.or_false, Bool.not_true, Bool.not_false, cond_true, cond_false]) ?_))))))))))))
         exact wt
       exact wc_exit (wk_then_exit (wk_in_hit (wk_then (wk_some ((r504, (TValueShape.mk x236.fDepth (IntKind.wrap .i64 (x236.fBytes + (r507 + 1))) x236.fOutside (x236.fLong || (decide (200 < (((at' v x235).fStr).length : Int)))))), v234) h511 (Sub.c rfl (Sub.c rfl (Sub.c5 rfl rfl rfl rfl rfl Sub.nil))) (sS (sC (sC (sC sN))))))))
     ·have h513 := cnd_f c486 h484
      refine wc_skip (wk_x (wc_sr (wv (o_fieldAddr Tryd.underlying80 rfl Tryd.sizeOf3 rfl rfl) (wv (o_load (i := 1) Tryd.isAgg3 rfl rfl rfl) (wm rfl (wv (o_len_wt (ys := x233) (enc := eTValueOpen) (i := 3) Tryd.underlying92 rfl rfl) ?_))))))
      obtain ⟨g514, h515⟩ := chk_e h513
      refine wv (o_add rfl rfl g514) (wv (o_max Tryd.underlying3 rfl rfl) (wv (o_fieldAddr Tryd.underlying80 rfl Tryd.sizeOf3 rfl rfl) (u_store (i := 1) Tryd.sizeOf3 rfl rfl (one_c rfl) rfl rfl (cs' := [rI .i64 (max x236.fDepth ((x233.length : Int) + 1)), rI .i64 x236.fBytes, rB x236.fOutside, rB x236.fLong]) rfl (H' := [.blk b473 (eTApiCell (at' v x235)) 54, .blk b2 [rI .i64 (max x236.fDepth ((x233.length : Int) + 1)), rI .i64 x236.fBytes, rB x236.fOutside, rB x236.fLong] 80, .blk b1 [rI .i64 0, rI .i64 0, rB false, rB false] 80, .row v234 95 5 (List.map eTValueOpen x233)]) rfl (wl_x (wc_seq ?_)))))
      obtain ⟨r516, e518, h517⟩ := obn_e h515
      refine wc_rdk (H1 := [.blk b473 (eTApiCell (at' v x235)) 54, .blk b2 [rI .i64 (max x236.fDepth ((x233.length : Int) + 1)), rI .i64 (IntKind.wrap .i64 (x236.fBytes + r516)), rB x236.fOutside, rB x236.fLong] 80, .blk b1 [rI .i64 0, rI .i64 0, rB false, rB false] 80, .row v234 95 5 (List.map eTValueOpen x233)]) [0, 3, 5, 6, 7, 8, 11, 12, 13] [⟨[], rv (.pointer (some ⟨b2, 1, none⟩)), 0⟩, ⟨[0], rI .i64 x236.fBytes, 1⟩, ⟨[], rAgg (eTApiCell (at' v x235)), 1⟩, ⟨[2], rI .i64 r516, 0⟩, ⟨[1, 3], rI .i64 (IntKind.wrap .i64 (x236.fBytes + r516)), 0⟩, ⟨[], rv (.pointer (some ⟨b2, 1, none⟩)), 0⟩, ⟨[5, 4], rv undef, 2⟩] (rle [(7, _), (1, [.blk b473 (eTApiCell (at' v x235)) 54, .blk b2 [rI .i64 (max x236.fDepth ((x233.length : Int) + 1)), rI .i64 (IntKind.wrap .i64 (x236.fBytes + r516)), rB x236.fOutside, rB x236.fLong] 80, .blk b1 [rI .i64 0, rI .i64 0, rB false, rB false] 80, .row v234 95 5 (List.map eTValueOpen x233)])]) [92, 93, 94, 95, 96, 97, 0, 3, 5, 6, 7, 8, 11, 12, 13] ?_ ?_
      ·refine oq (o_fieldAddr Tryd.underlying80 rfl Tryd.sizeOf3 rfl rfl) (of (o_load (i := 1) Tryd.isAgg3 rfl rfl rfl) (of (o_load_agg (i := 0) Tryd.isAgg54 Tryd.sizeOf54 rfl rfl rfl rfl) (obl_q rfl (fun H => ok_c0 Tryd.call56 (vSize_w (at' v x235) r516 e518) rfl) ?_)))
       refine oq (o_addw rfl rfl) (oq (o_fieldAddr Tryd.underlying80 rfl Tryd.sizeOf3 rfl rfl) (obl_l rfl (ok_u (U_u_store (i := 1) Tryd.sizeOf3 rfl rfl (one_c rfl) rfl rfl (cs' := [rI .i64 (max x236.fDepth ((x233.length : Int) + 1)), rI .i64 (IntKind.wrap .i64 (x236.fBytes + r516)), rB x236.fOutside, rB x236.fLong]) rfl (H' := [.blk b473 (eTApiCell (at' v x235)) 54, .blk b2 [rI .i64 (max x236.fDepth ((x233.length : Int) + 1)), rI .i64 (IntKind.wrap .i64 (x236.fBytes + r516)), rB x236.fOutside, rB x236.fLong] 80, .blk b1 [rI .i64 0, rI .i64 0, rB false, rB false] 80, .row v234 95 5 (List.map eTValueOpen x233)]) rfl)) ?_))
       exact obl_e
      refine wk_x ?_
      obtain ⟨g519, h520⟩ := chk_e h517
      refine wc_seq_mid [(0, rSl 4 (List.map eTApiCell v)), (3, rv (.pointer (some ⟨b1, 0, none⟩))), (5, rv (.pointer (some ⟨b2, 0, none⟩))), (6, rv v234), (7, rI .i64 x235), (8, rv (.pointer (some ⟨b473, 0, none⟩))), (11, rSl 4 (List.map eTApiCell v)), (12, rI .i64 (v.length : Int)), (13, rI .i64 x235), (92, rv (.pointer (some ⟨b2, 1, none⟩))), (93, rI .i64 x236.fBytes), (94, rAgg (eTApiCell (at' v x235))), (95, rI .i64 r516), (96, rI .i64 (IntKind.wrap .i64 (x236.fBytes + r516))), (97, rv (.pointer (some ⟨b2, 1, none⟩)))] [.blk b473 (eTApiCell (at' v x235)) 54, .blk b2 [rI .i64 (max x236.fDepth ((x233.length : Int) + 1)), rI .i64 (IntKind.wrap .i64 (x236.fBytes + r516)), rB (x236.fOutside || ((decide (((at' v x235).fKind) = 3)) && (!(ov (nValid ((at' v x235).fInt)))))), rB x236.fLong] 80, .blk b1 [rI .i64 0, rI .i64 0, rB false, rB false] 80, .row v234 95 5 (List.map eTValueOpen x233)] ?_ ?_
      ·refine wc_region (wv (o_fieldAddr Tryd.underlying80 rfl Tryd.sizeOf4 rfl rfl) (wv (o_load (i := 1) Tryd.isAgg4 rfl rfl rfl) (wm rfl (bsplit (x236.fOutside) (fun c521 => ?_) (fun c521 => ?_)))))
       ·refine wf c521 (wf c521 (wf c521 (wf c521 (wu (wu (wu (wu (wf c521 (wv (r := rB true) (o_pick_t (b := x236.fOutside) rfl c521 rfl) (wv (o_fieldAddr Tryd.underlying80 rfl Tryd.sizeOf4 rfl rfl) (u_store (i := 1) Tryd.sizeOf4 rfl rfl (one_c rfl) rfl rfl (cs' := [rI .i64 (max x236.fDepth ((x233.length : Int) + 1)), rI .i64 (IntKind.wrap .i64 (x236.fBytes + r516)), rB true, rB x236.fLong]) rfl (H' := [.blk b473 (eTApiCell (at' v x235)) 54, .blk b2 [rI .i64 (max x236.fDepth ((x233.length : Int) + 1)), rI .i64 (IntKind.wrap .i64 (x236.fBytes + r516)), rB true, rB x236.fLong] 80, .blk b1 [rI .i64 0, rI .i64 0, rB false, rB false] 80, .row v234 95 5 (List.map eTValueOpen x233)]) rfl (wl_nil (wk_asH (H' := [.blk b473 (eTApiCell (at' v x235)) 54, .blk b2 [rI .i64 (max x236.fDepth ((x233.length : Int) + 1)), rI .i64 (IntKind.wrap .i64 (x236.fBytes + r516)), rB (x236.fOutside || ((decide (((at' v x235).fKind) = 3)) && (!(ov (nValid ((at' v x235).fInt)))))), rB x236.fLong] 80, .blk b1 [rI .i64 0, rI .i64 0, rB false, rB false] 80, .row v234 95 5 (List.map eTValueOpen x233)]) (by simp only [c521, Bool.true_and, Bool.false_and, Bool.true_or, Bool.false_or, Bool.and_true, Bool.and_false, Bool.or_true, Bool.or_false, Bool.not_true, Bool.not_false, cond_true, cond_false]) ?_)))))))))))))
        exact wt
       ·refine wo c521 (wv (o_fieldAddr Tryd.underlying54 rfl Tryd.sizeOf52 rfl rfl) (wo c521 (wv (o_load (i := 0) Tryd.isAgg52 rfl rfl rfl) (wo c521 (wv (o_eq rfl rfl) (wo c521 (wm rfl (bsplit (decide (((at' v x235).fKind) = 3)) (fun c522 => ?_) (fun c522 => ?_)))))))))
        ·refine wo c522 (wv (o_fieldAddr Tryd.underlying54 rfl Tryd.sizeOf3 rfl rfl) (wo c522 (wv (o_load (i := 0) Tryd.isAgg3 rfl rfl rfl) (wo c522 (wc0 Tryd.call34 (nValid_w ((at' v x235).fInt) (ov (nValid ((at' v x235).fInt))) (ov_e (imp_t (imp_f g519 c521) c522))) rfl (wo c522 (wv (o_not rfl) (wo c521 (wpt rfl c522 rfl (wpf rfl c521 rfl (wv (o_fieldAddr Tryd.underlying80 rfl Tryd.sizeOf4 rfl rfl) (u_store (i := 1) Tryd.sizeOf4 rfl rfl (one_c rfl) rfl rfl (cs' := [rI .i64 (max x236.fDepth ((x233.length : Int) + 1)), rI .i64 (IntKind.wrap .i64 (x236.fBytes + r516)), rB (!(ov (nValid ((at' v x235).fInt)))), rB x236.fLong]) rfl (H' := [.blk b473 (eTApiCell (at' v x235)) 54, .blk b2 [rI .i64 (max x236.fDepth ((x233.length : Int) + 1)), rI .i64 (IntKind.wrap .i64 (x236.fBytes + r516)), rB (!(ov (nValid ((at' v x235).fInt)))), rB x236.fLong] 80, .blk b1 [rI .i64 0, rI .i64 0, rB false, rB false] 80, .row v234 95 5 (List.map eTValueOpen x233)]) rfl (wl_nil (wk_asH (H' := [.blk b473 (eTApiCell (at' v x235)) 54, .blk b2 [rI .i64 (max x236.fDepth ((x233.length : Int) + 1)), rI .i64 (IntKind.wrap .i64 (x236.fBytes + r516)), rB (x236.fOutside || ((decide (((at' v x235).fKind) = 3)) && (!(ov (nValid ((at' v x235).fInt)))))), rB x236.fLong] 80, .blk b1 [rI .i64 0, rI .i64 0, rB false, rB false] 80, .row v234 95 5 (List.map eTValueOpen x233)]) (by simp only [c521, c522, Bool.true_and, Bool.false_and, Bool.true_or, Bool.false_or, Bool.and_true, Bool.and_false, Bool.or_true, Bool.or_false, Bool.not_true, Bool.not_false, cond_true, cond_false]) ?_))))))))))))))
         exact wt
        ·refine wf c522 (wf c522 (wf c522 (wf c522 (wo c521 (wv (r := rB false) (o_pick_f (b := decide (((at' v x235).fKind) = 3)) rfl c522 rfl) (wpf rfl c521 rfl (wv (o_fieldAddr Tryd.underlying80 rfl Tryd.sizeOf4 rfl rfl) (u_store (i := 1) Tryd.sizeOf4 rfl rfl (one_c rfl) rfl rfl (cs' := [rI .i64 (max x236.fDepth ((x233.length : Int) + 1)), rI .i64 (IntKind.wrap .i64 (x236.fBytes + r516)), rB false, rB x236.fLong]) rfl (H' := [.blk b473 (eTApiCell (at' v x235)) 54, .blk b2 [rI .i64 (max x236.fDepth ((x233.length : Int) + 1)), rI .i64 (IntKind.wrap .i64 (x236.fBytes + r516)), rB false, rB x236.fLong] 80, .blk b1 [rI .i64 0, rI .i64 0, rB false, rB false] 80, .row v234 95 5 (List.map eTValueOpen x233)]) rfl (wl_nil (wk_asH (H' := [.blk b473 (eTApiCell (at' v x235)) 54, .blk b2 [rI .i64 (max x236.fDepth ((x233.length : Int) + 1)), rI .i64 (IntKind.wrap .i64 (x236.fBytes + r516)), rB (x236.fOutside || ((decide (((at' v x235).fKind) = 3)) && (!(ov (nValid ((at' v x235).fInt)))))), rB x236.fLong] 80, .blk b1 [rI .i64 0, rI .i64 0, rB false, rB false] 80, .row v234 95 5 (List.map eTValueOpen x233)]) (by simp only [c521, c522, Bool.true_and, Bool.false_and, Bool.true_or, Bool.false_or, Bool.and_true, Bool.and_false, Bool.or_true, Bool.or_false, Bool.not_true, Bool.not_false, cond_true, cond_false]) ?_))))))))))
         exact wt
      refine wc_seq_mid [(0, rSl 4 (List.map eTApiCell v)), (3, rv (.pointer (some ⟨b1, 0, none⟩))), (5, rv (.pointer (some ⟨b2, 0, none⟩))), (6, rv v234), (7, rI .i64 x235), (8, rv (.pointer (some ⟨b473, 0, none⟩))), (11, rSl 4 (List.map eTApiCell v)), (12, rI .i64 (v.length : Int)), (13, rI .i64 x235), (92, rv (.pointer (some ⟨b2, 1, none⟩))), (93, rI .i64 x236.fBytes), (94, rAgg (eTApiCell (at' v x235))), (95, rI .i64 r516), (96, rI .i64 (IntKind.wrap .i64 (x236.fBytes + r516))), (97, rv (.pointer (some ⟨b2, 1, none⟩)))] [.blk b473 (eTApiCell (at' v x235)) 54, .blk b2 [rI .i64 (max x236.fDepth ((x233.length : Int) + 1)), rI .i64 (IntKind.wrap .i64 (x236.fBytes + r516)), rB (x236.fOutside || ((decide (((at' v x235).fKind) = 3)) && (!(ov (nValid ((at' v x235).fInt)))))), rB (x236.fLong || (decide (200 < (((at' v x235).fStr).length : Int))))] 80, .blk b1 [rI .i64 0, rI .i64 0, rB false, rB false] 80, .row v234 95 5 (List.map eTValueOpen x233)] ?_ ?_
      ·refine wc_region (wv (o_fieldAddr Tryd.underlying80 rfl Tryd.sizeOf4 rfl rfl) (wv (o_load (i := 1) Tryd.isAgg4 rfl rfl rfl) (wm rfl (bsplit (x236.fLong) (fun c523 => ?_) (fun c523 => ?_)))))
       ·refine wf c523 (wf c523 (wf c523 (wf c523 (wv (r := rB true) (o_pick_t (b := x236.fLong) rfl c523 rfl) (wv (o_fieldAddr Tryd.underlying80 rfl Tryd.sizeOf4 rfl rfl) (u_store (i := 1) Tryd.sizeOf4 rfl rfl (one_c rfl) rfl rfl (cs' := [rI .i64 (max x236.fDepth ((x233.length : Int) + 1)), rI .i64 (IntKind.wrap .i64 (x236.fBytes + r516)), rB (x236.fOutside || ((decide (((at' v x235).fKind) = 3)) && (!(ov (nValid ((at' v x235).fInt)))))), rB true]) rfl (H' := [.blk b473 (eTApiCell (at' v x235)) 54, .blk b2 [rI .i64 (max x236.fDepth ((x233.length : Int) + 1)), rI .i64 (IntKind.wrap .i64 (x236.fBytes + r516)), rB (x236.fOutside || ((decide (((at' v x235).fKind) = 3)) && (!(ov (nValid ((at' v x235).fInt)))))), rB true] 80, .blk b1 [rI .i64 0, rI .i64 0, rB false, rB false] 80, .row v234 95 5 (List.map eTValueOpen x233)]) rfl (wl_nil (wk_asH (H' := [.blk b473 (eTApiCell (at' v x235)) 54, .blk b2 [rI .i64 (max x236.fDepth ((x233.length : Int) + 1)), rI .i64 (IntKind.wrap .i64 (x236.fBytes + r516)), rB (x236.fOutside || ((decide (((at' v x235).fKind) = 3)) && (!(ov (nValid ((at' v x235).fInt)))))), rB (x236.fLong || (decide (200 < (((at' v x235).fStr).length : Int))))] 80, .blk b1 [rI .i64 0, rI .i64 0, rB false, rB false] 80, .row v234 95 5 (List.map eTValueOpen x233)]) (by simp only [c523, Bool.true_and, Bool.false_and, Bool.true_or, Bool.false_or, Bool.and_true, Bool.and_false, Bool.or_true, Bool.or_false, Bool.not_true, Bool.not_false, cond_true, cond_false]) ?_))))))))
        exact wt
       ·refine wo c523 (wv (o_fieldAddr Tryd.underlying54 rfl Tryd.sizeOf9 rfl rfl) (wo c523 (wv (o_load (i := 0) Tryd.isAgg9 rfl rfl rfl) (wo c523 (wv (o_len_s Tryd.underlying9 rfl) (wo c523 (wv (o_gt rfl rfl) (wpf rfl c523 rfl (wv (o_fieldAddr Tryd.underlying80 rfl Tryd.sizeOf4 rfl rfl) (u_store (i := 1) Tryd.sizeOf4 rfl rfl (one_c rfl) rfl rfl (cs' := [rI .i64 (max x236.fDepth ((x233.length : Int) + 1)), rI .i64 (IntKind.wrap .i64 (x236.fBytes + r516)), rB (x236.fOutside || ((decide (((at' v x235).fKind) = 3)) && (!(ov (nValid ((at' v x235).fInt)))))), rB (decide (200 < (((at' v x235).fStr).length : Int)))]) rfl (H' := [.blk b473 (eTApiCell (at' v x235)) 54, .blk b2 [rI .i64 (max x236.fDepth ((x233.length : Int) + 1)), rI .i64 (IntKind.wrap .i64 (x236.fBytes + r516)), rB (x236.fOutside || ((decide (((at' v x235).fKind) = 3)) && (!(ov (nValid ((at' v x235).fInt)))))), rB (decide (200 < (((at' v x235).fStr).length : Int)))] 80, .blk b1 [rI .i64 0, rI .i64 0, rB false, rB false] 80, .row v234 95 5 (List.map eTValueOpen x233)]) rfl (wl_nil (wk_asH (H' := [.blk b473 (eTApiCell (at' v x235)) 54, .blk b2 [rI .i64 (max x236.fDepth ((x233.length : Int) + 1)), rI .i64 (IntKind.wrap .i64 (x236.fBytes + r516)), rB (x236.fOutside || ((decide (((at' v x235).fKind) = 3)) && (!(ov (nValid ((at' v x235).fInt)))))), rB (x236.fLong || (decide (200 < (((at' v x235).fStr).length : Int))))] 80, .blk b1 [rI .i64 0, rI .i64 0, rB false, rB false] 80, .row v234 95 5 (List.map eTValueOpen x233)]) (by simp only [c523, Bool.true_and, Bool.false_and, Bool.true_or, Bool.false_or, Bool.and_true, Bool.and_false, Bool.or_true, Bool.or_false, Bool.not_true, Bool.not_false, cond_true, cond_false]) ?_))))))))))))
        exact wt
      refine wc_seq (wc_sr (wv (o_fieldAddr Tryd.underlying54 rfl Tryd.sizeOf3 rfl rfl) (wv (o_load (i := 0) Tryd.isAgg3 rfl rfl rfl) (wv (o_gt rfl rfl) (wl_x (wc_cond (b := decide (0 < ((at' v x235).fN))) rfl (fun c524 => ?_) (fun c524 => ?_)))))))
      ·have h525 := cnd_t c524 h520
       refine wc_seq (wc_sr (wv (o_fieldAddr Tryd.underlying54 rfl Tryd.sizeOf3 rfl rfl) (wv (o_load (i := 0) Tryd.isAgg3 rfl rfl rfl) (wm rfl (wv (o_len_zt (ys := v) (enc := eTApiCell) Tryd.underlying22 rfl) (wv (o_gt rfl rfl) (wl_x (wc_cond (b := decide ((v.length : Int) < ((at' v x235).fN))) rfl (fun c526 => ?_) (fun c526 => ?_)))))))))
       ·have h527 := cnd_t c526 h525
        refine wc_seq (wc_rdk (H1 := [.blk b473 (eTApiCell (at' v x235)) 54, .blk b2 [rI .i64 (max x236.fDepth ((x233.length : Int) + 1)), rI .i64 (IntKind.wrap .i64 (x236.fBytes + r516)), rB (x236.fOutside || ((decide (((at' v x235).fKind) = 3)) && (!(ov (nValid ((at' v x235).fInt)))))), rB (x236.fLong || (decide (200 < (((at' v x235).fStr).length : Int))))] 80, .blk b1 [rI .i64 (max x236.fDepth ((x233.length : Int) + 1)), rI .i64 (IntKind.wrap .i64 (x236.fBytes + r516)), rB (x236.fOutside || ((decide (((at' v x235).fKind) = 3)) && (!(ov (nValid ((at' v x235).fInt)))))), rB (x236.fLong || (decide (200 < (((at' v x235).fStr).length : Int))))] 80, .row v234 95 5 (List.map eTValueOpen x233)]) [3, 5] [⟨[], rAgg [rI .i64 (max x236.fDepth ((x233.length : Int) + 1)), rI .i64 (IntKind.wrap .i64 (x236.fBytes + r516)), rB (x236.fOutside || ((decide (((at' v x235).fKind) = 3)) && (!(ov (nValid ((at' v x235).fInt)))))), rB (x236.fLong || (decide (200 < (((at' v x235).fStr).length : Int))))], 1⟩, ⟨[], rI .i64 0, 0⟩, ⟨[0], rv undef, 2⟩, ⟨[], rB false, 0⟩] (rle [(3, _), (2, [.blk b473 (eTApiCell (at' v x235)) 54, .blk b2 [rI .i64 (max x236.fDepth ((x233.length : Int) + 1)), rI .i64 (IntKind.wrap .i64 (x236.fBytes + r516)), rB (x236.fOutside || ((decide (((at' v x235).fKind) = 3)) && (!(ov (nValid ((at' v x235).fInt)))))), rB (x236.fLong || (decide (200 < (((at' v x235).fStr).length : Int))))] 80, .blk b1 [rI .i64 (max x236.fDepth ((x233.length : Int) + 1)), rI .i64 (IntKind.wrap .i64 (x236.fBytes + r516)), rB (x236.fOutside || ((decide (((at' v x235).fKind) = 3)) && (!(ov (nValid ((at' v x235).fInt)))))), rB (x236.fLong || (decide (200 < (((at' v x235).fStr).length : Int))))] 80, .row v234 95 5 (List.map eTValueOpen x233)])]) [2, 4, 3] ?_ ?_)
        ·refine of (o_load_agg (i := 1) Tryd.isAgg80 Tryd.sizeOf80 rfl rfl rfl rfl) (oq (o_assign rfl) (obl_l rfl (ok_u (U_u_store_agg (i := 2) Tryd.sizeOf80 rfl rfl rfl (OneAll.c rfl) rfl rfl (cs' := [rI .i64 (max x236.fDepth ((x233.length : Int) + 1)), rI .i64 (IntKind.wrap .i64 (x236.fBytes + r516)), rB (x236.fOutside || ((decide (((at' v x235).fKind) = 3)) && (!(ov (nValid ((at' v x235).fInt)))))), rB (x236.fLong || (decide (200 < (((at' v x235).fStr).length : Int))))]) rfl (H' := [.blk b473 (eTApiCell (at' v x235)) 54, .blk b2 [rI .i64 (max x236.fDepth ((x233.length : Int) + 1)), rI .i64 (IntKind.wrap .i64 (x236.fBytes + r516)), rB (x236.fOutside || ((decide (((at' v x235).fKind) = 3)) && (!(ov (nValid ((at' v x235).fInt)))))), rB (x236.fLong || (decide (200 < (((at' v x235).fStr).length : Int))))] 80, .blk b1 [rI .i64 (max x236.fDepth ((x233.length : Int) + 1)), rI .i64 (IntKind.wrap .i64 (x236.fBytes + r516)), rB (x236.fOutside || ((decide (((at' v x235).fKind) = 3)) && (!(ov (nValid ((at' v x235).fInt)))))), rB (x236.fLong || (decide (200 < (((at' v x235).fStr).length : Int))))] 80, .row v234 95 5 (List.map eTValueOpen x233)]) rfl)) ?_))
         refine oq (o_assign rfl) ?_
         exact obl_e
        refine wk_x (wc_ret (wk_then_ret (wk_then_ret (wk_in_ret (wk_then_ret (wk_then_ret (wk_cut_ret ?_)))))))
        have h528 := stp_ret h527 ht391 hK389
        refine wk_in_ret (wk_then_ret (wk_ng_r ?_))
        obtain rfl := some_e h528
        exact wk_ret (r_3 Tryd.results38 (rv_t rfl) (rv_ca (i := 2) Tryd.isAgg80 Tryd.sizeOf80 rfl rfl rfl) (rv_t rfl)) (sS (sS (sS (sS sN)))) ⟨rfl, rfl⟩
       ·have h529 := cnd_f c526 h525
        refine wc_skip (wk_x (wc_sr (wm rfl (wv (o_fieldAddr Tryd.underlying54 rfl Tryd.sizeOf52 rfl rfl) (wv (o_load (i := 0) Tryd.isAgg52 rfl rfl rfl) (wv (o_eq rfl rfl) (wv (o_fieldAddr Tryd.underlying54 rfl Tryd.sizeOf3 rfl rfl) (wv (o_load (i := 0) Tryd.isAgg3 rfl rfl rfl) (wv (o_fieldAddr Tryd.underlying54 rfl Tryd.sizeOf52 rfl rfl) (wv (o_load (i := 0) Tryd.isAgg52 rfl rfl rfl) (wv (o_eq rfl rfl) (wv (r := rAgg [rB (decide (((at' v x235).fKind) = 6)), rI .i64 ((at' v x235).fN), rB (decide (((at' v x235).fKind) = 6)), rS ([] : Str), rB false]) (o_build95_0_1_2 rfl rfl rfl rfl rfl rfl) (w_buildSlice (ys := ([(TValueOpen.mk (decide (((at' v x235).fKind) = 6)) ((at' v x235).fN) (decide (((at' v x235).fKind) = 6)) ([] : Str) false)] : List TValueOpen)) (enc := eTValueOpen) (css := [[rB (decide (((at' v x235).fKind) = 6)), rI .i64 ((at' v x235).fN), rB (decide (((at' v x235).fKind) = 6)), rS ([] : Str), rB false]]) (xs := [.tmp 139]) Tryd.underlying92 Tryd.sizeOf95 Tryd.zeroValue95 rfl rfl rfl ⟨Cel.agg ⟨Up.refl _, Up.refl _, Up.refl _, Up.refl _, Up.refl _, trivial⟩, trivial⟩ rfl eTValueOpen_len rfl rfl rfl (fun b530 => ?_))))))))))))))
        obtain ⟨g532, h533⟩ := chk_e h529
        obtain ⟨inf, hinf⟩ := info95
        refine w_append (xs := x233) (ys := ([(TValueOpen.mk (decide (((at' v x235).fKind) = 6)) ((at' v x235).fN) (decide (((at' v x235).fKind) = 6)) ([] : Str) false)] : List TValueOpen)) (enc := eTValueOpen) (i := 4) Tryd.underlying92 hinf.1 hinf.2.1 hinf.2.2.1 hinf.2.2.2 rfl rfl rfl rfl rfl (Src.w (i := 0) rfl rfl) eTValueOpen_len eTValueOpen_one g532 rfl (fun v531 => ?_)
        exact wa rfl (wl_x (wc_exit (wk_then_exit (wk_in_hit (wk_perm (H2 := [.blk b2 [rI .i64 (max x236.fDepth ((x233.length : Int) + 1)), rI .i64 (IntKind.wrap .i64 (x236.fBytes + r516)), rB (x236.fOutside || ((decide (((at' v x235).fKind) = 3)) && (!(ov (nValid ((at' v x235).fInt)))))), rB (x236.fLong || (decide (200 < (((at' v x235).fStr).length : Int))))] 80, .blk b1 [rI .i64 0, rI .i64 0, rB false, rB false] 80, .row v531 95 5 (List.map eTValueOpen (x233 ++ ([(TValueOpen.mk (decide (((at' v x235).fKind) = 6)) ((at' v x235).fN) (decide (((at' v x235).fKind) = 6)) ([] : Str) false)] : List TValueOpen))), .row (.slice (some ⟨b530, 0, none⟩) 1 1) 95 5 (List.map eTValueOpen ([(TValueOpen.mk (decide (((at' v x235).fKind) = 6)) ((at' v x235).fN) (decide (((at' v x235).fKind) = 6)) ([] : Str) false)] : List TValueOpen)), .blk b473 (eTApiCell (at' v x235)) 54]) ((perm_front (i := 3) rfl).trans (List.Perm.cons _ ((perm_front (i := 3) rfl).trans (List.Perm.cons _ (List.Perm.refl _))))) (wk_then (wk_some ((x233 ++ ([(TValueOpen.mk (decide (((at' v x235).fKind) = 6)) ((at' v x235).fN) (decide (((at' v x235).fKind) = 6)) ([] : Str) false)] : List TValueOpen), (TValueShape.mk (max x236.fDepth ((x233.length : Int) + 1)) (IntKind.wrap .i64 (x236.fBytes + r516)) (x236.fOutside || ((decide (((at' v x235).fKind) = 3)) && (!(ov (nValid ((at' v x235).fInt)))))) (x236.fLong || (decide (200 < (((at' v x235).fStr).length : Int)))))), v531) h533 (Sub.c rfl (Sub.c rfl (Sub.c5 rfl rfl rfl rfl rfl Sub.nil))) (sC (sC (sC (sS (sS sN))))))))))))
      ·have h534 := cnd_f c524 h520
       refine wc_skip (wk_x (wc_sr (wm rfl ?_)))
       obtain ⟨r535, e537, h536⟩ := obn_e h534
       refine wcl (Hr := [.blk b473 (eTApiCell (at' v x235)) 54, .blk b2 [rI .i64 (max x236.fDepth ((x233.length : Int) + 1)), rI .i64 (IntKind.wrap .i64 (x236.fBytes + r516)), rB (x236.fOutside || ((decide (((at' v x235).fKind) = 3)) && (!(ov (nValid ((at' v x235).fInt)))))), rB (x236.fLong || (decide (200 < (((at' v x235).fStr).length : Int))))] 80, .blk b1 [rI .i64 0, rI .i64 0, rB false, rB false] 80]) Tryd.call57 (vClosed_w F v234 x233 r535 e537) rfl ((perm_front (i := 3) rfl).trans (List.Perm.cons _ (List.Perm.refl _))) rfl ?_
       rintro _ _ ⟨v538, rfl, rfl⟩
       refine wa rfl (wl_y (wm rfl (wv (o_len_wt (ys := r535) (enc := eTValueOpen) (i := 0) Tryd.underlying92 rfl rfl) (wv (o_eq rfl rfl) (wl_x (wc_cond (b := decide ((r535.length : Int) = 0)) rfl (fun c539 => ?_) (fun c539 => ?_)))))))
       ·have h540 := cnd_t c539 h536
        refine wc_seq ?_
        obtain ⟨g541, h542⟩ := chk_e h540
        refine wc_rdk (H1 := [.row v538 95 5 (List.map eTValueOpen r535), .blk b473 (eTApiCell (at' v x235)) 54, .blk b2 [rI .i64 (max x236.fDepth ((x233.length : Int) + 1)), rI .i64 (IntKind.wrap .i64 (x236.fBytes + r516)), rB (x236.fOutside || ((decide (((at' v x235).fKind) = 3)) && (!(ov (nValid ((at' v x235).fInt)))))), rB (x236.fLong || (decide (200 < (((at' v x235).fStr).length : Int))))] 80, .blk b1 [rI .i64 (max x236.fDepth ((x233.length : Int) + 1)), rI .i64 (IntKind.wrap .i64 (x236.fBytes + r516)), rB (x236.fOutside || ((decide (((at' v x235).fKind) = 3)) && (!(ov (nValid ((at' v x235).fInt)))))), rB (x236.fLong || (decide (200 < (((at' v x235).fStr).length : Int))))] 80]) [3, 5, 7] [⟨[], rI .i64 x235, 0⟩, ⟨[0], rI .i64 (x235 + 1), 0⟩, ⟨[], rAgg [rI .i64 (max x236.fDepth ((x233.length : Int) + 1)), rI .i64 (IntKind.wrap .i64 (x236.fBytes + r516)), rB (x236.fOutside || ((decide (((at' v x235).fKind) = 3)) && (!(ov (nValid ((at' v x235).fInt)))))), rB (x236.fLong || (decide (200 < (((at' v x235).fStr).length : Int))))], 1⟩, ⟨[1], rI .i64 (x235 + 1), 0⟩, ⟨[2], rv undef, 2⟩, ⟨[], rB true, 0⟩] (rle [(5, _), (2, [.row v538 95 5 (List.map eTValueOpen r535), .blk b473 (eTApiCell (at' v x235)) 54, .blk b2 [rI .i64 (max x236.fDepth ((x233.length : Int) + 1)), rI .i64 (IntKind.wrap .i64 (x236.fBytes + r516)), rB (x236.fOutside || ((decide (((at' v x235).fKind) = 3)) && (!(ov (nValid ((at' v x235).fInt)))))), rB (x236.fLong || (decide (200 < (((at' v x235).fStr).length : Int))))] 80, .blk b1 [rI .i64 (max x236.fDepth ((x233.length : Int) + 1)), rI .i64 (IntKind.wrap .i64 (x236.fBytes + r516)), rB (x236.fOutside || ((decide (((at' v x235).fKind) = 3)) && (!(ov (nValid ((at' v x235).fInt)))))), rB (x236.fLong || (decide (200 < (((at' v x235).fStr).length : Int))))] 80])]) [2, 4, 3] ?_ ?_
        ·refine oq (o_move rfl) (oq (o_add rfl rfl g541) (of (o_load_agg (i := 2) Tryd.isAgg80 Tryd.sizeOf80 rfl rfl rfl rfl) (oq (o_assign rfl) (obl_l rfl (ok_u (U_u_store_agg (i := 3) Tryd.sizeOf80 rfl rfl rfl (OneAll.c rfl) rfl rfl (cs' := [rI .i64 (max x236.fDepth ((x233.length : Int) + 1)), rI .i64 (IntKind.wrap .i64 (x236.fBytes + r516)), rB (x236.fOutside || ((decide (((at' v x235).fKind) = 3)) && (!(ov (nValid ((at' v x235).fInt)))))), rB (x236.fLong || (decide (200 < (((at' v x235).fStr).length : Int))))]) rfl (H' := [.row v538 95 5 (List.map eTValueOpen r535), .blk b473 (eTApiCell (at' v x235)) 54, .blk b2 [rI .i64 (max x236.fDepth ((x233.length : Int) + 1)), rI .i64 (IntKind.wrap .i64 (x236.fBytes + r516)), rB (x236.fOutside || ((decide (((at' v x235).fKind) = 3)) && (!(ov (nValid ((at' v x235).fInt)))))), rB (x236.fLong || (decide (200 < (((at' v x235).fStr).length : Int))))] 80, .blk b1 [rI .i64 (max x236.fDepth ((x233.length : Int) + 1)), rI .i64 (IntKind.wrap .i64 (x236.fBytes + r516)), rB (x236.fOutside || ((decide (((at' v x235).fKind) = 3)) && (!(ov (nValid ((at' v x235).fInt)))))), rB (x236.fLong || (decide (200 < (((at' v x235).fStr).length : Int))))] 80]) rfl)) ?_))))
         refine oq (o_assign rfl) ?_
         exact obl_e
        refine wk_x (wc_ret (wk_in_ret (wk_then_ret (wk_then_ret (wk_cut_ret ?_)))))
        have h543 := stp_ret h542 ht391 hK389
        refine wk_in_ret (wk_then_ret (wk_ng_r ?_))
        obtain rfl := some_e h543
        exact wk_ret (r_3 Tryd.results38 (rv_t rfl) (rv_ca (i := 3) Tryd.isAgg80 Tryd.sizeOf80 rfl rfl rfl) (rv_t rfl)) (sS (sS (sS (sS sN)))) ⟨rfl, rfl⟩
       ·have h544 := cnd_f c539 h536
        exact wc_skip (wk_in_norm (wk_perm (H2 := [.blk b2 [rI .i64 (max x236.fDepth ((x233.length : Int) + 1)), rI .i64 (IntKind.wrap .i64 (x236.fBytes + r516)), rB (x236.fOutside || ((decide (((at' v x235).fKind) = 3)) && (!(ov (nValid ((at' v x235).fInt)))))), rB (x236.fLong || (decide (200 < (((at' v x235).fStr).length : Int))))] 80, .blk b1 [rI .i64 0, rI .i64 0, rB false, rB false] 80, .row v538 95 5 (List.map eTValueOpen r535), .blk b473 (eTApiCell (at' v x235)) 54]) ((perm_front (i := 2) rfl).trans (List.Perm.cons _ ((perm_front (i := 2) rfl).trans (List.Perm.cons _ (List.Perm.refl _))))) (wk_then (wk_some ((r535, (TValueShape.mk (max x236.fDepth ((x233.length : Int) + 1)) (IntKind.wrap .i64 (x236.fBytes + r516)) (x236.fOutside || ((decide (((at' v x235).fKind) = 3)) && (!(ov (nValid ((at' v x235).fInt)))))) (x236.fLong || (decide (200 < (((at' v x235).fStr).length : Int)))))), v538) h544 (Sub.c rfl (Sub.c rfl (Sub.c5 rfl rfl rfl rfl rfl Sub.nil))) (sC (sC (sC (sS sN))))))))
   ·rintro ⟨⟨x468, x470⟩, v469⟩ h545
    refine wc_as (l' := [(0, rSl 4 (List.map eTApiCell v)), (3, rv (.pointer (some ⟨b1, 0, none⟩))), (5, rv (.pointer (some ⟨b2, 0, none⟩))), (6, rv v469), (11, rSl 4 (List.map eTApiCell v)), (12, rI .i64 (v.length : Int)), (13, rI .i64 x235)]) (H' := [.blk b2 (eTValueShape x470) 80, .blk b1 [rI .i64 0, rI .i64 0, rB false, rB false] 80, .row v469 95 5 (List.map eTValueOpen x468)]) rfl rfl ?_
    replace h545 : vLook_j2 x235 x468 x470 = some t390 := h545
    unfold vLook_j2 at h545
    refine wc_region ?_
    obtain ⟨g546, h547⟩ := chk_e h545
    refine wv (o_add rfl rfl g546) (wm rfl (wl_nil ?_))
    have h548 := stp_next h547 ht391
    exact wk_then (wk_some (m392, (x468, x235 + 1, x470), v469) ⟨h548, Nat.lt_succ_self _⟩ (Sub.c rfl (Sub.c rfl (Sub.c5 rfl rfl rfl rfl rfl Sub.nil))) (sC (sC (sC sN))))
  ·have h549 := cnd_f c396 h394
   refine wc_exit (wk_then_exit ?_)
   have h550 := stp_go h549 ht391 hK389
   exact wk_then_exit (wk_cut_hit (wk_some (x236, ()) h550 (Sub.c rfl (Sub.c rfl Sub.nil)) (sC (sC (sS sN)))))
 ·rintro ⟨x386, ⟨⟩⟩ h551
  refine wk_as (l' := [(3, rv (.pointer (some ⟨b1, 0, none⟩))), (5, rv (.pointer (some ⟨b2, 0, none⟩)))]) (H' := [.blk b2 (eTValueShape x386) 80, .blk b1 [rI .i64 0, rI .i64 0, rB false, rB false] 80]) rfl rfl ?_
  replace h551 : vLook_k1 x386 = some r := h551
  unfold vLook_k1 at h551
  refine wk_in_hit (wk_x (wc_seq (wc_rdk (H1 := [.blk b2 (eTValueShape x386) 80, .blk b1 (eTValueShape x386) 80]) [3, 5] [⟨[], rAgg (eTValueShape x386), 1⟩, ⟨[], rI .i64 0, 0⟩, ⟨[0], rv undef, 2⟩, ⟨[], rB false, 0⟩] (rle [(3, _), (2, [.blk b2 (eTValueShape x386) 80, .blk b1 (eTValueShape x386) 80])]) [2, 4, 3] ?_ ?_)))
  ·refine of (o_load_agg (i := 0) Tryd.isAgg80 Tryd.sizeOf80 rfl rfl rfl rfl) (oq (o_assign rfl) (obl_l rfl (ok_u (U_u_store_agg (i := 1) Tryd.sizeOf80 rfl rfl rfl (OneAll.c rfl) rfl rfl (cs' := [rI .i64 x386.fDepth, rI .i64 x386.fBytes, rB x386.fOutside, rB x386.fLong]) rfl (H' := [.blk b2 (eTValueShape x386) 80, .blk b1 (eTValueShape x386) 80]) rfl)) ?_))
   refine oq (o_assign rfl) ?_
   exact obl_e
  refine wk_x (wc_ret (wk_ng_r ?_))
  obtain rfl := some_e h551
  exact wk_ret (r_3 Tryd.results38 (rv_t rfl) (rv_ca (i := 1) Tryd.isAgg80 Tryd.sizeOf80 rfl rfl rfl) (rv_t rfl)) (sS (sS sN)) ⟨rfl, rfl⟩

theorem vCheck_w (F : Nat) (v : (List TApiCell)) (r : Int) (h : vCheck F v = some r) : Fn Tryd.prog GE 24 [rSl 4 (List.map eTApiCell v)] [] (fun R H => R = rI .i64 r ∧ H = []) := by
 refine enter (n := 42) Tryd.func24 rfl Tryd.ntmps24 rfl (fun w Z => ?_)
 refine wc_as (l' := [(0, rSl 4 (List.map eTApiCell v))]) (H' := []) rfl rfl ?_
 unfold vCheck at h
 refine wc_sr (wv (r := rI .i64 0) (o_assign rfl) (wl_y (wm rfl ?_)))
 obtain ⟨r1, e3, h2⟩ := obn_e h
 refine wc0 Tryd.call38 (vLook_w F v r1 e3) rfl (wm rfl (wv (o_extract rfl rfl) (wv (o_extract rfl rfl) (wv (o_extract rfl rfl) (w_alloc (cs := [rI .i64 0, rI .i64 0, rB false, rB false]) Tryd.zeroValue80 rfl rfl (fun b4 => ?_))))))
 refine wa rfl (u_store_agg (i := 0) Tryd.sizeOf80 rfl rfl rfl (OneAll.c rfl) rfl rfl (cs' := [rI .i64 r1.2.1.fDepth, rI .i64 r1.2.1.fBytes, rB r1.2.1.fOutside, rB r1.2.1.fLong]) rfl (H' := [.blk b4 (eTValueShape r1.2.1) 80]) rfl (wa rfl (wl_x (wc_seq (wc_block (wc_seq_mid [(0, rSl 4 (List.map eTApiCell v)), (4, rv (.pointer (some ⟨b4, 0, none⟩))), (12, rB ((!r1.2.2) || (!decide (r1.1 = (v.length : Int)))))] [.blk b4 (eTValueShape r1.2.1) 80] ?_ ?_))))))
 ·refine wc_region (wm rfl (wv (o_not rfl) (wm rfl (bsplit (!r1.2.2) (fun c5 => ?_) (fun c5 => ?_)))))
  ·refine wf c5 (wf c5 (wf c5 (wf c5 (wv (r := rB true) (o_pick_t (b := !r1.2.2) rfl c5 rfl) (wa rfl (wl_nil ?_))))))
   exact wtc c5
  ·refine wo c5 (wm rfl (wo c5 (wm rfl (wo c5 (wv (o_len_zt (ys := v) (enc := eTApiCell) Tryd.underlying22 rfl) (wo c5 (wv (o_ne rfl rfl) (wpf rfl c5 rfl (wa rfl (wl_nil ?_))))))))))
   exact wtc c5
 refine wc_cond (b := ((!r1.2.2) || (!decide (r1.1 = (v.length : Int))))) rfl (fun c6 => ?_) (fun c6 => ?_)
 ·have h7 := cnd_t c6 h2
  refine wc_sr (wv (r := rI .i64 1) (o_assign rfl) (wl_x (wc_ret (wk_in_ret (wk_then_ret ?_)))))
  obtain rfl := some_e h7
  exact wk_ret (r_1 Tryd.results24 (rv_t rfl)) (sS sN) ⟨rfl, rfl⟩
 ·have h8 := cnd_f c6 h2
  refine wc_sr (wv (o_fieldAddr Tryd.underlying80 rfl Tryd.sizeOf4 rfl rfl) (wv (o_load (i := 0) Tryd.isAgg4 rfl rfl rfl) (wa rfl (wl_x (wc_cond (b := r1.2.1.fOutside) rfl (fun c9 => ?_) (fun c9 => ?_))))))
  ·have h10 := cnd_t c9 h8
   refine wc_sr (wv (r := rI .i64 2) (o_assign rfl) (wl_x (wc_ret (wk_in_ret (wk_then_ret ?_)))))
   obtain rfl := some_e h10
   exact wk_ret (r_1 Tryd.results24 (rv_t rfl)) (sS sN) ⟨rfl, rfl⟩
  ·have h11 := cnd_f c9 h8
   refine wc_seq_mid [(24, rB (r1.2.1.fLong || ((decide (200 < (v.length : Int))) || ((decide (8 < r1.2.1.fDepth)) || (decide (4000 < r1.2.1.fBytes))))))] [] ?_ ?_
   ·refine wc_region (wv (o_fieldAddr Tryd.underlying80 rfl Tryd.sizeOf4 rfl rfl) (wv (o_load (i := 0) Tryd.isAgg4 rfl rfl rfl) (wm rfl (bsplit (r1.2.1.fLong) (fun c12 => ?_) (fun c12 => ?_)))))
    ·refine wf c12 (wf c12 (wf c12 (wv (r := rB true) (o_pick_t (b := r1.2.1.fLong) rfl c12 rfl) (wm rfl (wl_off (b := true) rfl rfl rfl rfl (wl_off (b := true) rfl rfl rfl rfl (wl_off (b := true) rfl rfl rfl rfl (wv (r := rB true) (o_pick_t (b := true) rfl rfl rfl) (wm rfl (wl_off (b := true) rfl rfl rfl rfl (wl_off (b := true) rfl rfl rfl rfl (wl_off (b := true) rfl rfl rfl rfl (wv (r := rB true) (o_pick_t (b := true) rfl rfl rfl) (wa rfl (wl_nil ?_)))))))))))))))
     exact wtc c12
    ·refine wo c12 (wm rfl (wo c12 (wv (o_len_zt (ys := v) (enc := eTApiCell) Tryd.underlying22 rfl) (wo c12 (wv (o_gt rfl rfl) (wpf rfl c12 rfl (wm rfl (bsplit (decide (200 < (v.length : Int))) (fun c13 => ?_) (fun c13 => ?_)))))))))
     ·refine wf c13 (wf c13 (wf c13 (wv (r := rB true) (o_pick_t (b := decide (200 < (v.length : Int))) rfl c13 rfl) (wm rfl (wl_off (b := true) rfl rfl rfl rfl (wl_off (b := true) rfl rfl rfl rfl (wl_off (b := true) rfl rfl rfl rfl (wv (r := rB true) (o_pick_t (b := true) rfl rfl rfl) (wa rfl (wl_nil ?_))))))))))
      exact wtc (And.intro c12 c13)
     ·refine wo c13 (wv (o_fieldAddr Tryd.underlying80 rfl Tryd.sizeOf3 rfl rfl) (wo c13 (wv (o_load (i := 0) Tryd.isAgg3 rfl rfl rfl) (wo c13 (wv (o_gt rfl rfl) (wpf rfl c13 rfl (wm rfl (bsplit (decide (8 < r1.2.1.fDepth)) (fun c14 => ?_) (fun c14 => ?_)))))))))
      ·refine wf c14 (wf c14 (wf c14 (wv (r := rB true) (o_pick_t (b := decide (8 < r1.2.1.fDepth)) rfl c14 rfl) (wa rfl (wl_nil ?_)))))
       exact wtc (And.intro c12 (And.intro c13 c14))
      ·refine wo c14 (wv (o_fieldAddr Tryd.underlying80 rfl Tryd.sizeOf3 rfl rfl) (wo c14 (wv (o_load (i := 0) Tryd.isAgg3 rfl rfl rfl) (wo c14 (wv (o_gt rfl rfl) (wpf rfl c14 rfl (wa rfl (wl_nil ?_))))))))
       exact wtc (And.intro c12 (And.intro c13 c14))
   refine wc_cond (b := (r1.2.1.fLong || ((decide (200 < (v.length : Int))) || ((decide (8 < r1.2.1.fDepth)) || (decide (4000 < r1.2.1.fBytes)))))) rfl (fun c15 => ?_) (fun c15 => ?_)
   ·have h16 := cnd_t c15 h11
    refine wc_sr (wv (r := rI .i64 3) (o_assign rfl) (wl_x (wc_ret (wk_in_ret (wk_then_ret ?_)))))
    obtain rfl := some_e h16
    exact wk_ret (r_1 Tryd.results24 (rv_t rfl)) sN ⟨rfl, rfl⟩
   ·have h17 := cnd_f c15 h11
    refine wc_skip (wk_in_norm (wk_x (wc_sr (wv (r := rI .i64 0) (o_assign rfl) (wl_x (wc_ret ?_))))))
    obtain rfl := some_e h17
    exact wk_ret (r_1 Tryd.results24 (rv_t rfl)) sN ⟨rfl, rfl⟩

theorem vChecked_w (F : Nat) (v : (List TApiCell)) (r : (List TApiCell) × Int) (h : vChecked F v = some r) : Fn Tryd.prog GE 36 [rSl 4 (List.map eTApiCell v)] [] (fun R H => R = rTup [rSl 4 (List.map eTApiCell r.1), rI .i64 r.2] ∧ H = []) := by
 refine enter (n := 11) Tryd.func36 rfl Tryd.ntmps36 rfl (fun w Z => ?_)
 refine wc_as (l' := [(0, rSl 4 (List.map eTApiCell v))]) (H' := []) rfl rfl ?_
 unfold vChecked at h
 refine wc_sr (wv (r := rv (.slice none 0 0)) (o_assign rfl) (wv (r := rI .i64 0) (o_assign rfl) (wl_x (wc_seq (wc_sr (wm rfl ?_))))))
 obtain ⟨r1, e3, h2⟩ := obn_e h
 refine wc0 Tryd.call24 (vCheck_w F v r1 e3) rfl (wa rfl (wl_y (wm rfl (wv (o_ne rfl rfl) (wl_x (wc_cond (b := !decide (r1 = 0)) rfl (fun c4 => ?_) (fun c4 => ?_)))))))
 ·have h5 := cnd_t c4 h2
  refine wc_sr (wm rfl (wv (r := rv (.slice none 0 0)) (o_assign rfl) (wa rfl (wl_x (wc_ret (wk_then_ret (WK.up (d := 2) (r := rSl 4 (List.map eTApiCell ([] : List TApiCell))) rfl (Up.le (Rle.nil _)) ?_)))))))
  obtain rfl := some_e h5
  exact wk_ret (r_2 Tryd.results36 (rv_t rfl) (rv_t rfl)) sN ⟨rfl, rfl⟩
 ·have h6 := cnd_f c4 h2
  refine wc_skip (wk_x (wc_sr (wm rfl (wa rfl (wv (r := rI .i64 0) (o_assign rfl) (wl_x (wc_ret ?_)))))))
  obtain rfl := some_e h6
  exact wk_ret (r_2 Tryd.results36 (rv_t rfl) (rv_t rfl)) sN ⟨rfl, rfl⟩

end Go.Proofs.YtpmiamphppcfeaaDoor.Q

/-
 What functions compute, with checks: plain definitions, printed by a small program of ours (gq.py). No program in sight.
-/
namespace Go.Proofs.YtpmiamphppcfeaaDoor
open Go
set_option linter.unusedVariables false
def vQuote_b1 (s : Str) (x82 : Int) (x83 : Str) : Option (Stp (Int × Str) (Out (Str) (Str))) :=
 cnd (decide (x82 < (s.length : Int))) (chk (inR x82 (s.length : Int)) <| cnd (((decide ((bat s x82) = 34)) || (decide ((bat s x82) = 92)))) (chk (inA 1 (x83.length + 1)) <| chk (inK .u8 92) <| bnd (x83 ++ [UInt8.ofNat (Int.toNat 92)]) fun r145 => chk (inA 1 (r145.length + 1)) <| chk (inK .u8 (bat s x82)) <| bnd (r145 ++ [UInt8.ofNat (Int.toNat (bat s x82))]) fun r153 => chk (inK .i64 (x82 + 1)) <| some (.next (x82 + 1, r153))) (chk (inA 1 (x83.length + 1)) <| chk (inK .u8 (bat s x82)) <| bnd (x83 ++ [UInt8.ofNat (Int.toNat (bat s x82))]) fun r165 => chk (inK .i64 (x82 + 1)) <| some (.next (x82 + 1, r165)))) (some (.out (.go x83)))

def vQuote_k1 (x122 : Str) : Option (Str) :=
 chk (inA 1 (x122.length + 1)) <| bnd (x122 ++ [UInt8.ofNat (Int.toNat 34)]) fun r177 => some r177

def vQuote (F : Nat) (l : Str) (s : Str) : Option (Str) :=
 chk (inA 1 (l.length + 1)) <| chk (inK .u8 34) <| bnd (l ++ [UInt8.ofNat (Int.toNat 34)]) fun r6 => obn (lop (fun σ => vQuote_b1 s σ.1 σ.2) F (0, r6)) (oute fun ν => vQuote_k1 ν)

def vWritem (F : Nat) (rec_vWriteF : Str → (List TApiCell) → Bool → Str → TApiCell → Option (Bool × Bool × Str)) (rec_vWriteP : (List TApiCell) → Bool → Str → TApiCell → Option (Bool × Str)) (l : Str) (v : (List TApiCell)) : Option (Str) :=
 chk (inR 0 (v.length : Int)) <| cnd (decide (((at' v 0).fKind) = 1)) (chk (inA 1 (l.length + ([110, 117, 108, 108] : Str).length)) <| bnd (l ++ ([110, 117, 108, 108] : Str)) fun r10 => some r10) (cnd (decide (((at' v 0).fKind) = 2)) (chk (inR ((at' v 0).fInt) (([([102, 97, 108, 115, 101] : Str), ([116, 114, 117, 101] : Str)] : List Str).length : Int)) <| chk (inA 1 (l.length + (at' ([([102, 97, 108, 115, 101] : Str), ([116, 114, 117, 101] : Str)] : List Str) ((at' v 0).fInt)).length)) <| bnd (l ++ (at' ([([102, 97, 108, 115, 101] : Str), ([116, 114, 117, 101] : Str)] : List Str) ((at' v 0).fInt))) fun r21 => some r21) (cnd (decide (((at' v 0).fKind) = 3)) (chk (inK .i64 ((at' v 0).fInt)) <| chk (inA 1 (l.length + (Lib.itoa ((at' v 0).fInt)).length)) <| bnd (l ++ (Lib.itoa ((at' v 0).fInt))) fun r32 => some r32) (cnd (decide (((at' v 0).fKind) = 4)) (obn (vQuote F l ((at' v 0).fStr)) fun r38 => some r38) (cnd (decide (((at' v 0).fKind) = 6)) (chk (inR 0 (([123, 125] : Str).length : Int)) <| chk (inA 1 (l.length + 1)) <| chk (inK .u8 (bat ([123, 125] : Str) 0)) <| bnd (l ++ [UInt8.ofNat (Int.toNat (bat ([123, 125] : Str) 0))]) fun r52 => obn (rec_vWriteP v true r52 (at' v 0)) fun r56 => chk (inR 1 (([123, 125] : Str).length : Int)) <| chk (inA 1 (r56.2.length + 1)) <| chk (inK .u8 (bat ([123, 125] : Str) 1)) <| bnd (r56.2 ++ [UInt8.ofNat (Int.toNat (bat ([123, 125] : Str) 1))]) fun r67 => some r67) (chk (inR 0 (([91, 93] : Str).length : Int)) <| chk (inA 1 (l.length + 1)) <| chk (inK .u8 (bat ([91, 93] : Str) 0)) <| bnd (l ++ [UInt8.ofNat (Int.toNat (bat ([91, 93] : Str) 0))]) fun r78 => obn (rec_vWriteP v true r78 (at' v 0)) fun r82 => chk (inR 1 (([91, 93] : Str).length : Int)) <| chk (inA 1 (r82.2.length + 1)) <| chk (inK .u8 (bat ([91, 93] : Str) 1)) <| bnd (r82.2 ++ [UInt8.ofNat (Int.toNat (bat ([91, 93] : Str) 1))]) fun r93 => some r93)))))

def vWriteFm (F : Nat) (rec_vWrite : Str → (List TApiCell) → Option (Str)) (key : Str) (x : (List TApiCell)) (first : Bool) (l : Str) (c : TApiCell) : Option (Bool × Bool × Str) :=
 cnd (!first) (chk (inA 1 (l.length + 1)) <| chk (inK .u8 44) <| bnd (l ++ [UInt8.ofNat (Int.toNat 44)]) fun r8 => cnd (decide (c.fKind = 6)) (obn (vQuote F r8 key) fun r13 => chk (inA 1 (r13.length + 1)) <| chk (inK .u8 58) <| bnd (r13 ++ [UInt8.ofNat (Int.toNat 58)]) fun r22 => obn (rec_vWrite r22 x) fun r25 => some (true, false, r25)) (obn (rec_vWrite r8 x) fun r30 => some (true, false, r30))) (cnd (decide (c.fKind = 6)) (obn (vQuote F l key) fun r37 => chk (inA 1 (r37.length + 1)) <| chk (inK .u8 58) <| bnd (r37 ++ [UInt8.ofNat (Int.toNat 58)]) fun r46 => obn (rec_vWrite r46 x) fun r49 => some (true, false, r49)) (obn (rec_vWrite l x) fun r54 => some (true, false, r54)))

def vWriteP_b1 (F : Nat) (v : (List TApiCell)) (c : TApiCell) (rec_vWriteF : Str → (List TApiCell) → Bool → Str → TApiCell → Option (Bool × Bool × Str)) (x106 : Int) (x107 : Int) (x108 : Bool) (x109 : Str) : Option (Stp (Int × Int × Bool × Str) (Out (Bool × Str) (Bool × Str))) :=
 cnd (decide (x107 < ((at' v 0).fN))) (cnd (decide (((at' v 0).fKind) = 6)) (chk (inR x106 (v.length : Int)) <| chk (inK .i64 (x106 + 1)) <| chk (inC (x106 + 1) (v.length : Int)) <| obn (vLook F (List.drop (Int.toNat (x106 + 1)) v)) fun r185 => chk (inK .i64 ((x106 + 1) + r185.1)) <| chk (inC (x106 + 1) ((x106 + 1) + r185.1)) <| chk (inC ((x106 + 1) + r185.1) (v.length : Int)) <| obn (rec_vWriteF ((at' v x106).fStr) (List.take (Int.toNat ((x106 + 1) + r185.1) - Int.toNat (x106 + 1)) (List.drop (Int.toNat (x106 + 1)) v)) x108 x109 c) fun r195 => cnd (!r195.1) (some (.out (.ret (r195.2.1, r195.2.2)))) (chk (inK .i64 (x107 + 1)) <| some (.next ((x106 + 1) + r185.1, x107 + 1, r195.2.1, r195.2.2)))) (chk (inC x106 (v.length : Int)) <| obn (vLook F (List.drop (Int.toNat x106) v)) fun r209 => chk (inK .i64 (x106 + r209.1)) <| chk (inC x106 (x106 + r209.1)) <| chk (inC (x106 + r209.1) (v.length : Int)) <| obn (rec_vWriteF ([] : Str) (List.take (Int.toNat (x106 + r209.1) - Int.toNat x106) (List.drop (Int.toNat x106) v)) x108 x109 c) fun r219 => cnd (!r219.1) (some (.out (.ret (r219.2.1, r219.2.2)))) (chk (inK .i64 (x107 + 1)) <| some (.next (x106 + r209.1, x107 + 1, r219.2.1, r219.2.2))))) (some (.out (.go (x108, x109))))

def vWriteP_k1 (x163 : Bool) (x164 : Str) : Option (Bool × Str) :=
 some (x163, x164)

def vWritePm (F : Nat) (rec_vWriteF : Str → (List TApiCell) → Bool → Str → TApiCell → Option (Bool × Bool × Str)) (v : (List TApiCell)) (first : Bool) (l : Str) (c : TApiCell) : Option (Bool × Str) :=
 chk (inR 0 (v.length : Int)) <| obn (lop (fun σ => vWriteP_b1 F v c rec_vWriteF σ.1 σ.2.1 σ.2.2.1 σ.2.2.2) F (1, 0, first, l)) (oute fun ν => vWriteP_k1 ν.1 ν.2)

mutual
def vWrite : Nat → Str → (List TApiCell) → Option (Str)
 | 0, _, _ => none
 | nn + 1, l, v => vWritem nn (vWriteF nn) (vWriteP nn) l v

def vWriteF : Nat → Str → (List TApiCell) → Bool → Str → TApiCell → Option (Bool × Bool × Str)
 | 0, _, _, _, _, _ => none
 | nn + 1, key, x, first, l, c => vWriteFm nn (vWrite nn) key x first l c

def vWriteP : Nat → (List TApiCell) → Bool → Str → TApiCell → Option (Bool × Str)
 | 0, _, _, _, _ => none
 | nn + 1, v, first, l, c => vWritePm nn (vWriteF nn) v first l c

end
def vEncode (F : Nat) (v : (List TApiCell)) : Option (Str × Int) :=
 obn (vCheck F v) fun r1 => cnd (!decide (r1 = 0)) (some (([] : Str), r1)) (obn (vWrite F ([] : Str) v) fun r8 => chk (decide (0 < r8.length)) <| some (r8, 0))

end Go.Proofs.YtpmiamphppcfeaaDoor

/-
  Walks, printed by a small program of ours (gq.py).
-/
namespace Go.Proofs.YtpmiamphppcfeaaDoor.Q
open Go Go.RowKit
set_option linter.unusedVariables false
set_option linter.unusedSimpArgs false
set_option maxRecDepth 100000
set_option maxHeartbeats 4000000
theorem vQuote_w (F : Nat) (b_l : Nat) (v_l : Value) (l : Str) (s : Str) (r : Str) (h : vQuote F l s = some r) : Fn Tryd.prog GE 42 [rv (.pointer (some ⟨b_l, 0, none⟩)), rS s] [.bld 65 5 b_l v_l l] (fun R H => ∃ w0b : Value, R = rv (.tuple #[]) ∧ H = [.bld 65 5 b_l w0b r]) := by
 refine enter (n := 32) Tryd.func42 rfl Tryd.ntmps42 rfl (fun w Z => ?_)
 refine wc_as (l' := [(0, rv (.pointer (some ⟨b_l, 0, none⟩))), (1, rS s)]) (H' := [.bld 65 5 b_l v_l l]) rfl rfl ?_
 unfold vQuote at h
 refine wc_sr (wm rfl ?_)
 obtain ⟨g1, h2⟩ := chk_e h
 obtain ⟨g3, h4⟩ := chk_e h2
 refine w_call (rs := [rv (.pointer (some ⟨b_l, 0, none⟩)), rI .u8 34]) (Hin := [.bld 65 5 b_l v_l l]) (Hr := []) Tryd.call43 rfl (List.Perm.refl _) (writeByte_q b_l v_l l 34 g1 g3) rfl ?_
 rintro _ _ ⟨v5, rfl, rfl⟩
 obtain ⟨r6, e8, h7⟩ := bnd_e h4
 rw [← e8]
 refine wl_x (wc_seq (wc_sr (wm rfl (wv (o_len_s Tryd.underlying9 rfl) (wv (r := rI .i64 0) (o_move rfl) (wl_x (wc_block ?_)))))))
 obtain ⟨o124, eo125, hK126⟩ := obn_e h7
 refine wc_loop2 (S := Nat × (Int × Str) × (Value)) (V := (Str) × (Value)) 0 (fun σ => lop (fun σ => vQuote_b1 s σ.1 σ.2) σ.1 σ.2.1 = some o124) (fun σ => [(0, rv (.pointer (some ⟨b_l, 0, none⟩))), (1, rS s), (8, rI .i64 (s.length : Int)), (9, rI .i64 σ.2.1.1)]) (fun σ => [.bld 65 5 b_l σ.2.2 σ.2.1.2]) (fun σ => σ.1) (F, (0, r6), v5) eo125 (Sub.c rfl (Sub.c rfl (Sub.c rfl (Sub.c rfl Sub.nil)))) (sC sN) (fun σ => vQuote_k1 σ.1 = some r) (fun σ => [(0, rv (.pointer (some ⟨b_l, 0, none⟩)))]) (fun σ => [.bld 65 5 b_l σ.2 σ.1]) ?_ ?_
 ·rintro ⟨n132, ⟨x82, x83⟩, v84⟩ hi130
  refine wc_as (l' := [(0, rv (.pointer (some ⟨b_l, 0, none⟩))), (1, rS s), (8, rI .i64 (s.length : Int)), (9, rI .i64 x82)]) (H' := [.bld 65 5 b_l v84 x83]) rfl rfl ?_
  obtain ⟨m129, rfl, t127, h131, ht128⟩ := lop_e hi130
  replace h131 : vQuote_b1 s x82 x83 = some t127 := h131
  unfold vQuote_b1 at h131
  refine wc_sr (wv (o_lt rfl rfl) (wl_x (wc_seq (wc_cond (b := decide (x82 < (s.length : Int))) rfl (fun c133 => ?_) (fun c133 => ?_)))))
  ·have h134 := cnd_t c133 h131
   refine wc_skip (wk_x (wc_seq (wc_block (wc_sr (wm rfl (wa rfl (wl_x (wc_seq ?_))))))))
   obtain ⟨g135, h136⟩ := chk_e h134
   refine wc_seq_mid [(0, rv (.pointer (some ⟨b_l, 0, none⟩))), (1, rS s), (4, rI .i64 x82), (8, rI .i64 (s.length : Int)), (9, rI .i64 x82), (21, rB ((decide ((bat s x82) = 34)) || (decide ((bat s x82) = 92))))] [.bld 65 5 b_l v84 x83] ?_ ?_
   ·refine wc_region (wm rfl (wm rfl (wv (o_index_b Tryd.underlying9 rfl rfl g135) (wv (o_eq rfl rfl) (wm rfl (bsplit (decide ((bat s x82) = 34)) (fun c137 => ?_) (fun c137 => ?_)))))))
    ·refine wf c137 (wf c137 (wf c137 (wf c137 (wv (r := rB true) (o_pick_t (b := decide ((bat s x82) = 34)) rfl c137 rfl) (wl_nil ?_)))))
     exact wtc c137
    ·refine wo c137 (wm rfl (wo c137 (wm rfl (wo c137 (wv (o_index_b Tryd.underlying9 rfl rfl g135) (wo c137 (wv (o_eq rfl rfl) (wpf rfl c137 rfl (wl_nil ?_)))))))))
     exact wtc c137
   refine wc_cond (b := ((decide ((bat s x82) = 34)) || (decide ((bat s x82) = 92)))) rfl (fun c138 => ?_) (fun c138 => ?_)
   ·have h139 := cnd_t c138 h136
    refine wc_region (wm rfl ?_)
    obtain ⟨g140, h141⟩ := chk_e h139
    obtain ⟨g142, h143⟩ := chk_e h141
    refine w_call (rs := [rv (.pointer (some ⟨b_l, 0, none⟩)), rI .u8 92]) (Hin := [.bld 65 5 b_l v84 x83]) (Hr := []) Tryd.call43 rfl (List.Perm.refl _) (writeByte_q b_l v84 x83 92 g140 g142) rfl ?_
    rintro _ _ ⟨v144, rfl, rfl⟩
    obtain ⟨r145, e147, h146⟩ := bnd_e h143
    rw [← e147]
    refine wl_x (wc_region (wm rfl (wm rfl (wm rfl (wv (o_index_b Tryd.underlying9 rfl rfl g135) ?_)))))
    obtain ⟨g148, h149⟩ := chk_e h146
    obtain ⟨g150, h151⟩ := chk_e h149
    refine w_call (rs := [rv (.pointer (some ⟨b_l, 0, none⟩)), rI .u8 (bat s x82)]) (Hin := [.bld 65 5 b_l v144 r145]) (Hr := []) Tryd.call43 rfl (List.Perm.refl _) (writeByte_q b_l v144 r145 (bat s x82) g148 g150) rfl ?_
    rintro _ _ ⟨v152, rfl, rfl⟩
    obtain ⟨r153, e155, h154⟩ := bnd_e h151
    rw [← e155]
    refine wl_nil (wk_in_norm (wk_x (wc_region ?_)))
    obtain ⟨g156, h157⟩ := chk_e h154
    refine wv (o_add rfl rfl g156) (wm rfl (wl_nil ?_))
    have h158 := stp_next h157 ht128
    exact wk_then (wk_some (m129, (x82 + 1, r153), v152) ⟨h158, Nat.lt_succ_self _⟩ (Sub.c rfl (Sub.c rfl (Sub.c rfl (Sub.c rfl Sub.nil)))) (sC sN))
   ·have h159 := cnd_f c138 h136
    refine wc_skip (wk_x (wc_region (wm rfl (wm rfl (wm rfl (wv (o_index_b Tryd.underlying9 rfl rfl g135) ?_))))))
    obtain ⟨g160, h161⟩ := chk_e h159
    obtain ⟨g162, h163⟩ := chk_e h161
    refine w_call (rs := [rv (.pointer (some ⟨b_l, 0, none⟩)), rI .u8 (bat s x82)]) (Hin := [.bld 65 5 b_l v84 x83]) (Hr := []) Tryd.call43 rfl (List.Perm.refl _) (writeByte_q b_l v84 x83 (bat s x82) g160 g162) rfl ?_
    rintro _ _ ⟨v164, rfl, rfl⟩
    obtain ⟨r165, e167, h166⟩ := bnd_e h163
    rw [← e167]
    refine wl_nil (wk_in_norm (wk_x (wc_region ?_)))
    obtain ⟨g168, h169⟩ := chk_e h166
    refine wv (o_add rfl rfl g168) (wm rfl (wl_nil ?_))
    have h170 := stp_next h169 ht128
    exact wk_then (wk_some (m129, (x82 + 1, r165), v164) ⟨h170, Nat.lt_succ_self _⟩ (Sub.c rfl (Sub.c rfl (Sub.c rfl (Sub.c rfl Sub.nil)))) (sC sN))
  ·have h171 := cnd_f c133 h131
   refine wc_exit (wk_then_exit ?_)
   have h172 := stp_go h171 ht128 hK126
   exact wk_then_exit (wk_cut_hit (wk_some (x83, v84) h172 (Sub.c rfl Sub.nil) (sC sN)))
 ·rintro ⟨x122, v123⟩ h173
  refine wk_as (l' := [(0, rv (.pointer (some ⟨b_l, 0, none⟩)))]) (H' := [.bld 65 5 b_l v123 x122]) rfl rfl ?_
  replace h173 : vQuote_k1 x122 = some r := h173
  unfold vQuote_k1 at h173
  refine wk_in_hit (wk_x (wc_region (wm rfl ?_)))
  obtain ⟨g174, h175⟩ := chk_e h173
  refine w_call (rs := [rv (.pointer (some ⟨b_l, 0, none⟩)), rI .u8 34]) (Hin := [.bld 65 5 b_l v123 x122]) (Hr := []) Tryd.call43 rfl (List.Perm.refl _) (writeByte_q b_l v123 x122 34 g174 g3) rfl ?_
  rintro _ _ ⟨v176, rfl, rfl⟩
  obtain ⟨r177, e179, h178⟩ := bnd_e h175
  rw [← e179]
  refine wl_nil ?_
  obtain rfl := some_e h178
  exact wk_end (r_0 Tryd.results42) (sC sN) ⟨v176, rfl, rfl⟩

theorem vWritem_w (F : Nat) (rec_vWriteF : Str → (List TApiCell) → Bool → Str → TApiCell → Option (Bool × Bool × Str)) (rec_vWriteP : (List TApiCell) → Bool → Str → TApiCell → Option (Bool × Str)) (ih_vWriteF : (∀ (b_first : Nat) (bx_l : Nat) (b_l : Nat) (v_l : Value) (b_c : Nat) (key : Str) (x : (List TApiCell)) (first : Bool) (l : Str) (c : TApiCell) (r : Bool × Bool × Str), rec_vWriteF key x first l c = some r → Fn Tryd.prog GE 45 [rS key, rSl 4 (List.map eTApiCell x), rv (.pointer (some ⟨b_first, 0, none⟩)), rv (.pointer (some ⟨bx_l, 0, none⟩)), rv (.pointer (some ⟨b_c, 0, none⟩))] [.blk b_first [rB first] 4, .blk bx_l [rv (.pointer (some ⟨b_l, 0, none⟩))] 62, .bld 65 5 b_l v_l l, .blk b_c (eTApiCell c) 54] (fun R H => ∃ w3b : Value, R = rB r.1 ∧ H = [.blk b_first [rB r.2.1] 4, .blk bx_l [rv (.pointer (some ⟨b_l, 0, none⟩))] 62, .bld 65 5 b_l w3b r.2.2, .blk b_c (eTApiCell c) 54]))) (ih_vWriteP : (∀ (b_first : Nat) (bx_l : Nat) (b_l : Nat) (v_l : Value) (b_c : Nat) (v : (List TApiCell)) (first : Bool) (l : Str) (c : TApiCell) (r : Bool × Str), rec_vWriteP v first l c = some r → Fn Tryd.prog GE 44 [rSl 4 (List.map eTApiCell v), rv (.func (.func 45) #[] #[(.pointer (some ⟨b_first, 0, none⟩)), (.pointer (some ⟨bx_l, 0, none⟩)), (.pointer (some ⟨b_c, 0, none⟩))])] [.blk b_first [rB first] 4, .blk bx_l [rv (.pointer (some ⟨b_l, 0, none⟩))] 62, .bld 65 5 b_l v_l l, .blk b_c (eTApiCell c) 54] (fun R H => ∃ w1_1b : Value, R = rv (.tuple #[]) ∧ H = [.blk b_first [rB r.1] 4, .blk bx_l [rv (.pointer (some ⟨b_l, 0, none⟩))] 62, .bld 65 5 b_l w1_1b r.2, .blk b_c (eTApiCell c) 54]))) (b_l : Nat) (v_l : Value) (l : Str) (v : (List TApiCell)) (r : Str) (h : vWritem F rec_vWriteF rec_vWriteP l v = some r) : Fn Tryd.prog GE 29 [rv (.pointer (some ⟨b_l, 0, none⟩)), rSl 4 (List.map eTApiCell v)] [.bld 65 5 b_l v_l l] (fun R H => ∃ w0b : Value, R = rv (.tuple #[]) ∧ H = [.bld 65 5 b_l w0b r]) := by
 refine enter (n := 52) Tryd.func29 rfl Tryd.ntmps29 rfl (fun w Z => ?_)
 refine wc_as (l' := [(0, rv (.pointer (some ⟨b_l, 0, none⟩))), (1, rSl 4 (List.map eTApiCell v))]) (H' := [.bld 65 5 b_l v_l l]) rfl rfl ?_
 unfold vWritem at h
 refine wc_sr (w_box rfl (one_c rfl) rfl (fun b1 => ?_))
 refine wl_y (wm rfl ?_)
 obtain ⟨g2, h3⟩ := chk_e h
 refine wv (o_ix_z (enc := eTApiCell) (ys := v) Tryd.underlying22 Tryd.sizeOf54 rfl rfl g2) (wv (o_load_za Tryd.isAgg54 Tryd.sizeOf54 rfl rfl rfl) (w_alloc (cs := [rI .i64 0, rI .i64 0, rS ([] : Str), rI .i64 0]) Tryd.zeroValue54 rfl rfl (fun b4 => ?_)))
 refine u_store_agg (i := 0) Tryd.sizeOf54 rfl rfl rfl (OneAll.c rfl) rfl rfl (cs' := [rI .i64 ((at' v 0).fKind), rI .i64 ((at' v 0).fInt), rS ((at' v 0).fStr), rI .i64 ((at' v 0).fN)]) rfl (H' := [.blk b4 (eTApiCell (at' v 0)) 54, .blk b1 [rv (.pointer (some ⟨b_l, 0, none⟩))] 62, .bld 65 5 b_l v_l l]) rfl (wl_y (wv (o_fieldAddr Tryd.underlying54 rfl Tryd.sizeOf52 rfl rfl) (wv (o_load (i := 0) Tryd.isAgg52 rfl rfl rfl) (wl_x (wc_block (wc_sr (wv (o_eq rfl rfl) (wa rfl (wl_x (wc_cond (b := decide (((at' v 0).fKind) = 1)) rfl (fun c5 => ?_) (fun c5 => ?_)))))))))))
 ·have h6 := cnd_t c5 h3
  refine wc_region (wv (o_load (i := 1) Tryd.isAgg62 rfl rfl rfl) ?_)
  obtain ⟨g7, h8⟩ := chk_e h6
  refine w_call (rs := [rv (.pointer (some ⟨b_l, 0, none⟩)), rS ([110, 117, 108, 108] : Str)]) (Hin := [.bld 65 5 b_l v_l l]) (Hr := [.blk b4 (eTApiCell (at' v 0)) 54, .blk b1 [rv (.pointer (some ⟨b_l, 0, none⟩))] 62]) Tryd.call41 rfl ((perm_front (i := 2) rfl).trans (List.Perm.cons _ (List.Perm.refl _))) (writeString_q b_l v_l l ([110, 117, 108, 108] : Str) g7) rfl ?_
  rintro _ _ ⟨v9, rfl, rfl⟩
  obtain ⟨r10, e12, h11⟩ := bnd_e h8
  rw [← e12]
  refine wl_nil (wk_in_norm ?_)
  obtain rfl := some_e h11
  exact wk_end (r_0 Tryd.results29) (sC (sS (sS sN))) ⟨v9, rfl, rfl⟩
 ·have h13 := cnd_f c5 h3
  refine wc_sr (wv (o_eq rfl rfl) (wa rfl (wl_x (wc_cond (b := decide (((at' v 0).fKind) = 2)) rfl (fun c14 => ?_) (fun c14 => ?_)))))
  ·have h15 := cnd_t c14 h13
   obtain ⟨g16, h17⟩ := chk_e h15
   refine wc_rdlk (H1 := [.blk b4 (eTApiCell (at' v 0)) 54, .blk b1 [rv (.pointer (some ⟨b_l, 0, none⟩))] 62, .bld 65 5 b_l v_l l]) 6 [2, 4] [⟨[], rv (.pointer (some ⟨b_l, 0, none⟩)), 1⟩, ⟨[], rSl 1 (List.map eS ([([102, 97, 108, 115, 101] : Str), ([116, 114, 117, 101] : Str)] : List Str)), 0⟩, ⟨[], rv (.pointer (some ⟨b4, 1, none⟩)), 0⟩, ⟨[2], rI .i64 ((at' v 0).fInt), 1⟩, ⟨[1, 3], rAt [rS (at' ([([102, 97, 108, 115, 101] : Str), ([116, 114, 117, 101] : Str)] : List Str) ((at' v 0).fInt))], 0⟩, ⟨[4], rS (at' ([([102, 97, 108, 115, 101] : Str), ([116, 114, 117, 101] : Str)] : List Str) ((at' v 0).fInt)), 0⟩] (rle [(7, _)]) [32, 33, 34, 35, 36, 37, 2, 4] ?_ ?_
   ·refine of (o_load (i := 1) Tryd.isAgg62 rfl rfl rfl) (obl_q rfl (fun H => ok_buildSlice (ys := ([([102, 97, 108, 115, 101] : Str), ([116, 114, 117, 101] : Str)] : List Str)) (enc := eS) (css := [[rS ([102, 97, 108, 115, 101] : Str)], [rS ([116, 114, 117, 101] : Str)]]) (xs := [.const (.string ⟨#[102, 97, 108, 115, 101]⟩), .const (.string ⟨#[116, 114, 117, 101]⟩)]) Tryd.underlying37 Tryd.sizeOf9 Tryd.zeroValue9 rfl rfl rfl ⟨Cel.one rfl (Up.refl _), Cel.one rfl (Up.refl _), trivial⟩ rfl eS_len rfl rfl) ?_)
    refine oq (o_fieldAddr Tryd.underlying54 rfl Tryd.sizeOf3 rfl rfl) (of (o_load (i := 0) Tryd.isAgg3 rfl rfl rfl) (oq (o_ix_z (enc := eS) (ys := ([([102, 97, 108, 115, 101] : Str), ([116, 114, 117, 101] : Str)] : List Str)) Tryd.underlying37 Tryd.sizeOf9 rfl rfl g16) (oq (o_load_z Tryd.isAgg9 rfl rfl) ?_)))
    exact obl_e
   obtain ⟨g18, h19⟩ := chk_e h17
   refine w_call (rs := [rv (.pointer (some ⟨b_l, 0, none⟩)), rS (at' ([([102, 97, 108, 115, 101] : Str), ([116, 114, 117, 101] : Str)] : List Str) ((at' v 0).fInt))]) (Hin := [.bld 65 5 b_l v_l l]) (Hr := [.blk b4 (eTApiCell (at' v 0)) 54, .blk b1 [rv (.pointer (some ⟨b_l, 0, none⟩))] 62]) Tryd.call41 rfl ((perm_front (i := 2) rfl).trans (List.Perm.cons _ (List.Perm.refl _))) (writeString_q b_l v_l l (at' ([([102, 97, 108, 115, 101] : Str), ([116, 114, 117, 101] : Str)] : List Str) ((at' v 0).fInt)) g18) rfl ?_
   rintro _ _ ⟨v20, rfl, rfl⟩
   obtain ⟨r21, e23, h22⟩ := bnd_e h19
   rw [← e23]
   refine wl_nil (wk_in_norm ?_)
   obtain rfl := some_e h22
   exact wk_end (r_0 Tryd.results29) (sC (sS (sS sN))) ⟨v20, rfl, rfl⟩
  ·have h24 := cnd_f c14 h13
   refine wc_sr (wv (o_eq rfl rfl) (wa rfl (wl_x (wc_cond (b := decide (((at' v 0).fKind) = 3)) rfl (fun c25 => ?_) (fun c25 => ?_)))))
   ·have h26 := cnd_t c25 h24
    obtain ⟨g27, h28⟩ := chk_e h26
    refine wc_rdlk (H1 := [.blk b4 (eTApiCell (at' v 0)) 54, .blk b1 [rv (.pointer (some ⟨b_l, 0, none⟩))] 62, .bld 65 5 b_l v_l l]) 4 [2, 4] [⟨[], rv (.pointer (some ⟨b_l, 0, none⟩)), 1⟩, ⟨[], rv (.pointer (some ⟨b4, 1, none⟩)), 0⟩, ⟨[1], rI .i64 ((at' v 0).fInt), 1⟩, ⟨[2], rS (Lib.itoa ((at' v 0).fInt)), 0⟩] (rle [(5, _)]) [41, 42, 43, 44, 2, 4] ?_ ?_
    ·refine of (o_load (i := 1) Tryd.isAgg62 rfl rfl rfl) (oq (o_fieldAddr Tryd.underlying54 rfl Tryd.sizeOf3 rfl rfl) (of (o_load (i := 0) Tryd.isAgg3 rfl rfl rfl) (obl_q rfl (fun H => ok_call0 (rs := [rI .i64 ((at' v 0).fInt)]) (r := rS (Lib.itoa ((at' v 0).fInt))) Tryd.call17 rfl (format_q ((at' v 0).fInt) g27) rfl) ?_)))
     exact obl_e
    obtain ⟨g29, h30⟩ := chk_e h28
    refine w_call (rs := [rv (.pointer (some ⟨b_l, 0, none⟩)), rS (Lib.itoa ((at' v 0).fInt))]) (Hin := [.bld 65 5 b_l v_l l]) (Hr := [.blk b4 (eTApiCell (at' v 0)) 54, .blk b1 [rv (.pointer (some ⟨b_l, 0, none⟩))] 62]) Tryd.call41 rfl ((perm_front (i := 2) rfl).trans (List.Perm.cons _ (List.Perm.refl _))) (writeString_q b_l v_l l (Lib.itoa ((at' v 0).fInt)) g29) rfl ?_
    rintro _ _ ⟨v31, rfl, rfl⟩
    obtain ⟨r32, e34, h33⟩ := bnd_e h30
    rw [← e34]
    refine wl_nil (wk_in_norm ?_)
    obtain rfl := some_e h33
    exact wk_end (r_0 Tryd.results29) (sC (sS (sS sN))) ⟨v31, rfl, rfl⟩
   ·have h35 := cnd_f c25 h24
    refine wc_sr (wv (o_eq rfl rfl) (wa rfl (wl_x (wc_cond (b := decide (((at' v 0).fKind) = 4)) rfl (fun c36 => ?_) (fun c36 => ?_)))))
    ·have h37 := cnd_t c36 h35
     refine wc_region (wv (o_load (i := 1) Tryd.isAgg62 rfl rfl rfl) (wv (o_fieldAddr Tryd.underlying54 rfl Tryd.sizeOf9 rfl rfl) (wv (o_load (i := 0) Tryd.isAgg9 rfl rfl rfl) ?_)))
     obtain ⟨r38, e40, h39⟩ := obn_e h37
     refine wcl (Hr := [.blk b4 (eTApiCell (at' v 0)) 54, .blk b1 [rv (.pointer (some ⟨b_l, 0, none⟩))] 62]) Tryd.call42 (vQuote_w F b_l v_l l ((at' v 0).fStr) r38 e40) rfl ((perm_front (i := 2) rfl).trans (List.Perm.cons _ (List.Perm.refl _))) rfl ?_
     rintro _ _ ⟨v41, rfl, rfl⟩
     refine wl_nil (wk_in_norm ?_)
     obtain rfl := some_e h39
     exact wk_end (r_0 Tryd.results29) (sC (sS (sS sN))) ⟨v41, rfl, rfl⟩
    ·have h42 := cnd_f c36 h35
     refine wc_sr (wv (r := rS ([91, 93] : Str)) (o_assign rfl) (wl_x (wc_seq (wc_sr (wv (o_fieldAddr Tryd.underlying54 rfl Tryd.sizeOf52 rfl rfl) (wv (o_load (i := 0) Tryd.isAgg52 rfl rfl rfl) (wv (o_eq rfl rfl) (wl_x (wc_cond (b := decide (((at' v 0).fKind) = 6)) rfl (fun c43 => ?_) (fun c43 => ?_))))))))))
     ·have h44 := cnd_t c43 h42
      refine wc_region (wv (r := rS ([123, 125] : Str)) (o_assign rfl) (wl_x (wc_seq ?_)))
      obtain ⟨g45, h46⟩ := chk_e h44
      refine wc_rdlk (H1 := [.blk b4 (eTApiCell (at' v 0)) 54, .blk b1 [rv (.pointer (some ⟨b_l, 0, none⟩))] 62, .bld 65 5 b_l v_l l]) 3 [1, 2, 4, 5] [⟨[], rv (.pointer (some ⟨b_l, 0, none⟩)), 1⟩, ⟨[], rS ([123, 125] : Str), 0⟩, ⟨[1], rI .u8 (bat ([123, 125] : Str) 0), 0⟩] (rle [(4, _)]) [15, 16, 17, 1, 2, 4, 5] ?_ ?_
      ·refine of (o_load (i := 1) Tryd.isAgg62 rfl rfl rfl) (oq (o_move rfl) (oq (o_index_b Tryd.underlying9 rfl rfl g45) ?_))
       exact obl_e
      obtain ⟨g47, h48⟩ := chk_e h46
      obtain ⟨g49, h50⟩ := chk_e h48
      refine w_call (rs := [rv (.pointer (some ⟨b_l, 0, none⟩)), rI .u8 (bat ([123, 125] : Str) 0)]) (Hin := [.bld 65 5 b_l v_l l]) (Hr := [.blk b4 (eTApiCell (at' v 0)) 54, .blk b1 [rv (.pointer (some ⟨b_l, 0, none⟩))] 62]) Tryd.call43 rfl ((perm_front (i := 2) rfl).trans (List.Perm.cons _ (List.Perm.refl _))) (writeByte_q b_l v_l l (bat ([123, 125] : Str) 0) g47 g49) rfl ?_
      rintro _ _ ⟨v51, rfl, rfl⟩
      obtain ⟨r52, e54, h53⟩ := bnd_e h50
      rw [← e54]
      refine wl_y (w_alloc (cs := [rB false]) Tryd.zeroValue4 rfl rfl (fun b55 => ?_))
      refine u_store (i := 0) Tryd.sizeOf4 rfl rfl (one_c rfl) rfl rfl (cs' := [rB true]) rfl (H' := [.blk b55 [rB true] 4, .bld 65 5 b_l v51 r52, .blk b4 (eTApiCell (at' v 0)) 54, .blk b1 [rv (.pointer (some ⟨b_l, 0, none⟩))] 62]) rfl (wl_y (wm rfl (wv (r := rv (.func (.func 45) #[] #[(.pointer (some ⟨b55, 0, none⟩)), (.pointer (some ⟨b1, 0, none⟩)), (.pointer (some ⟨b4, 0, none⟩))])) (o_makeFunc rfl) ?_)))
      obtain ⟨r56, e58, h57⟩ := obn_e h53
      refine wcl (Hr := []) Tryd.call44 (ih_vWriteP b55 b1 b_l v51 b4 v true r52 (at' v 0) r56 e58) rfl ((perm_front (i := 0) rfl).trans (List.Perm.cons _ ((perm_front (i := 2) rfl).trans (List.Perm.cons _ (List.Perm.refl _))))) rfl ?_
      rintro _ _ ⟨v59, rfl, rfl⟩
      refine wl_x ?_
      obtain ⟨g60, h61⟩ := chk_e h57
      refine wc_rdlk (H1 := [.blk b55 [rB r56.1] 4, .blk b1 [rv (.pointer (some ⟨b_l, 0, none⟩))] 62, .bld 65 5 b_l v59 r56.2, .blk b4 (eTApiCell (at' v 0)) 54]) 3 [2, 5] [⟨[], rv (.pointer (some ⟨b_l, 0, none⟩)), 1⟩, ⟨[], rS ([123, 125] : Str), 0⟩, ⟨[1], rI .u8 (bat ([123, 125] : Str) 1), 0⟩] (rle [(4, _)]) [22, 23, 24, 2, 5] ?_ ?_
      ·refine of (o_load (i := 1) Tryd.isAgg62 rfl rfl rfl) (oq (o_move rfl) (oq (o_index_b Tryd.underlying9 rfl rfl g60) ?_))
       exact obl_e
      obtain ⟨g62, h63⟩ := chk_e h61
      obtain ⟨g64, h65⟩ := chk_e h63
      refine w_call (rs := [rv (.pointer (some ⟨b_l, 0, none⟩)), rI .u8 (bat ([123, 125] : Str) 1)]) (Hin := [.bld 65 5 b_l v59 r56.2]) (Hr := [.blk b55 [rB r56.1] 4, .blk b1 [rv (.pointer (some ⟨b_l, 0, none⟩))] 62, .blk b4 (eTApiCell (at' v 0)) 54]) Tryd.call43 rfl ((perm_front (i := 2) rfl).trans (List.Perm.cons _ (List.Perm.refl _))) (writeByte_q b_l v59 r56.2 (bat ([123, 125] : Str) 1) g62 g64) rfl ?_
      rintro _ _ ⟨v66, rfl, rfl⟩
      obtain ⟨r67, e69, h68⟩ := bnd_e h65
      rw [← e69]
      refine wl_nil (wk_in_norm ?_)
      obtain rfl := some_e h68
      exact wk_end (r_0 Tryd.results29) (sC (sS (sS (sS sN)))) ⟨v66, rfl, rfl⟩
     ·have h70 := cnd_f c43 h42
      refine wc_skip (wk_x (wc_seq ?_))
      obtain ⟨g71, h72⟩ := chk_e h70
      refine wc_rdlk (H1 := [.blk b4 (eTApiCell (at' v 0)) 54, .blk b1 [rv (.pointer (some ⟨b_l, 0, none⟩))] 62, .bld 65 5 b_l v_l l]) 3 [1, 2, 4, 5] [⟨[], rv (.pointer (some ⟨b_l, 0, none⟩)), 1⟩, ⟨[], rS ([91, 93] : Str), 0⟩, ⟨[1], rI .u8 (bat ([91, 93] : Str) 0), 0⟩] (rle [(4, _)]) [15, 16, 17, 1, 2, 4, 5] ?_ ?_
      ·refine of (o_load (i := 1) Tryd.isAgg62 rfl rfl rfl) (oq (o_move rfl) (oq (o_index_b Tryd.underlying9 rfl rfl g71) ?_))
       exact obl_e
      obtain ⟨g73, h74⟩ := chk_e h72
      obtain ⟨g75, h76⟩ := chk_e h74
      refine w_call (rs := [rv (.pointer (some ⟨b_l, 0, none⟩)), rI .u8 (bat ([91, 93] : Str) 0)]) (Hin := [.bld 65 5 b_l v_l l]) (Hr := [.blk b4 (eTApiCell (at' v 0)) 54, .blk b1 [rv (.pointer (some ⟨b_l, 0, none⟩))] 62]) Tryd.call43 rfl ((perm_front (i := 2) rfl).trans (List.Perm.cons _ (List.Perm.refl _))) (writeByte_q b_l v_l l (bat ([91, 93] : Str) 0) g73 g75) rfl ?_
      rintro _ _ ⟨v77, rfl, rfl⟩
      obtain ⟨r78, e80, h79⟩ := bnd_e h76
      rw [← e80]
      refine wl_y (w_alloc (cs := [rB false]) Tryd.zeroValue4 rfl rfl (fun b81 => ?_))
      refine u_store (i := 0) Tryd.sizeOf4 rfl rfl (one_c rfl) rfl rfl (cs' := [rB true]) rfl (H' := [.blk b81 [rB true] 4, .bld 65 5 b_l v77 r78, .blk b4 (eTApiCell (at' v 0)) 54, .blk b1 [rv (.pointer (some ⟨b_l, 0, none⟩))] 62]) rfl (wl_y (wm rfl (wv (r := rv (.func (.func 45) #[] #[(.pointer (some ⟨b81, 0, none⟩)), (.pointer (some ⟨b1, 0, none⟩)), (.pointer (some ⟨b4, 0, none⟩))])) (o_makeFunc rfl) ?_)))
      obtain ⟨r82, e84, h83⟩ := obn_e h79
      refine wcl (Hr := []) Tryd.call44 (ih_vWriteP b81 b1 b_l v77 b4 v true r78 (at' v 0) r82 e84) rfl ((perm_front (i := 0) rfl).trans (List.Perm.cons _ ((perm_front (i := 2) rfl).trans (List.Perm.cons _ (List.Perm.refl _))))) rfl ?_
      rintro _ _ ⟨v85, rfl, rfl⟩
      refine wl_x ?_
      obtain ⟨g86, h87⟩ := chk_e h83
      refine wc_rdlk (H1 := [.blk b81 [rB r82.1] 4, .blk b1 [rv (.pointer (some ⟨b_l, 0, none⟩))] 62, .bld 65 5 b_l v85 r82.2, .blk b4 (eTApiCell (at' v 0)) 54]) 3 [2, 5] [⟨[], rv (.pointer (some ⟨b_l, 0, none⟩)), 1⟩, ⟨[], rS ([91, 93] : Str), 0⟩, ⟨[1], rI .u8 (bat ([91, 93] : Str) 1), 0⟩] (rle [(4, _)]) [22, 23, 24, 2, 5] ?_ ?_
      ·refine of (o_load (i := 1) Tryd.isAgg62 rfl rfl rfl) (oq (o_move rfl) (oq (o_index_b Tryd.underlying9 rfl rfl g86) ?_))
       exact obl_e
      obtain ⟨g88, h89⟩ := chk_e h87
      obtain ⟨g90, h91⟩ := chk_e h89
      refine w_call (rs := [rv (.pointer (some ⟨b_l, 0, none⟩)), rI .u8 (bat ([91, 93] : Str) 1)]) (Hin := [.bld 65 5 b_l v85 r82.2]) (Hr := [.blk b81 [rB r82.1] 4, .blk b1 [rv (.pointer (some ⟨b_l, 0, none⟩))] 62, .blk b4 (eTApiCell (at' v 0)) 54]) Tryd.call43 rfl ((perm_front (i := 2) rfl).trans (List.Perm.cons _ (List.Perm.refl _))) (writeByte_q b_l v85 r82.2 (bat ([91, 93] : Str) 1) g88 g90) rfl ?_
      rintro _ _ ⟨v92, rfl, rfl⟩
      obtain ⟨r93, e95, h94⟩ := bnd_e h91
      rw [← e95]
      refine wl_nil (wk_in_norm ?_)
      obtain rfl := some_e h94
      exact wk_end (r_0 Tryd.results29) (sC (sS (sS (sS sN)))) ⟨v92, rfl, rfl⟩

theorem vWriteFm_w (F : Nat) (rec_vWrite : Str → (List TApiCell) → Option (Str)) (ih_vWrite : (∀ (b_l : Nat) (v_l : Value) (l : Str) (v : (List TApiCell)) (r : Str), rec_vWrite l v = some r → Fn Tryd.prog GE 29 [rv (.pointer (some ⟨b_l, 0, none⟩)), rSl 4 (List.map eTApiCell v)] [.bld 65 5 b_l v_l l] (fun R H => ∃ w0b : Value, R = rv (.tuple #[]) ∧ H = [.bld 65 5 b_l w0b r]))) (b_first : Nat) (bx_l : Nat) (b_l : Nat) (v_l : Value) (b_c : Nat) (key : Str) (x : (List TApiCell)) (first : Bool) (l : Str) (c : TApiCell) (r : Bool × Bool × Str) (h : vWriteFm F rec_vWrite key x first l c = some r) : Fn Tryd.prog GE 45 [rS key, rSl 4 (List.map eTApiCell x), rv (.pointer (some ⟨b_first, 0, none⟩)), rv (.pointer (some ⟨bx_l, 0, none⟩)), rv (.pointer (some ⟨b_c, 0, none⟩))] [.blk b_first [rB first] 4, .blk bx_l [rv (.pointer (some ⟨b_l, 0, none⟩))] 62, .bld 65 5 b_l v_l l, .blk b_c (eTApiCell c) 54] (fun R H => ∃ w3b : Value, R = rB r.1 ∧ H = [.blk b_first [rB r.2.1] 4, .blk bx_l [rv (.pointer (some ⟨b_l, 0, none⟩))] 62, .bld 65 5 b_l w3b r.2.2, .blk b_c (eTApiCell c) 54]) := by
 refine enter (n := 23) Tryd.func45 rfl Tryd.ntmps45 rfl (fun w Z => ?_)
 refine wc_as (l' := [(0, rS key), (1, rSl 4 (List.map eTApiCell x)), (2, rv (.pointer (some ⟨b_first, 0, none⟩))), (3, rv (.pointer (some ⟨bx_l, 0, none⟩))), (4, rv (.pointer (some ⟨b_c, 0, none⟩)))]) (H' := [.blk b_first [rB first] 4, .blk bx_l [rv (.pointer (some ⟨b_l, 0, none⟩))] 62, .bld 65 5 b_l v_l l, .blk b_c (eTApiCell c) 54]) rfl rfl ?_
 unfold vWriteFm at h
 refine wc_sr (wv (r := rB false) (o_assign rfl) (wl_x (wc_seq (wc_sr (wv (o_load (i := 0) Tryd.isAgg4 rfl rfl rfl) (wv (o_not rfl) (wl_x (wc_cond (b := !first) rfl (fun c1 => ?_) (fun c1 => ?_)))))))))
 ·have h2 := cnd_t c1 h
  refine wc_region (wv (o_load (i := 1) Tryd.isAgg62 rfl rfl rfl) ?_)
  obtain ⟨g3, h4⟩ := chk_e h2
  obtain ⟨g5, h6⟩ := chk_e h4
  refine w_call (rs := [rv (.pointer (some ⟨b_l, 0, none⟩)), rI .u8 44]) (Hin := [.bld 65 5 b_l v_l l]) (Hr := [.blk b_first [rB first] 4, .blk bx_l [rv (.pointer (some ⟨b_l, 0, none⟩))] 62, .blk b_c (eTApiCell c) 54]) Tryd.call43 rfl ((perm_front (i := 2) rfl).trans (List.Perm.cons _ (List.Perm.refl _))) (writeByte_q b_l v_l l 44 g3 g5) rfl ?_
  rintro _ _ ⟨v7, rfl, rfl⟩
  obtain ⟨r8, e10, h9⟩ := bnd_e h6
  rw [← e10]
  refine wl_y (u_store (i := 1) Tryd.sizeOf4 rfl rfl (one_c rfl) rfl rfl (cs' := [rB false]) rfl (H' := [.bld 65 5 b_l v7 r8, .blk b_first [rB false] 4, .blk bx_l [rv (.pointer (some ⟨b_l, 0, none⟩))] 62, .blk b_c (eTApiCell c) 54]) rfl (wl_x (wc_seq (wc_sr (wv (o_fieldAddr Tryd.underlying54 rfl Tryd.sizeOf52 rfl rfl) (wv (o_load (i := 3) Tryd.isAgg52 rfl rfl rfl) (wv (o_eq rfl rfl) (wl_x (wc_cond (b := decide (c.fKind = 6)) rfl (fun c11 => ?_) (fun c11 => ?_))))))))))
  ·have h12 := cnd_t c11 h9
   refine wc_sr (wv (o_load (i := 2) Tryd.isAgg62 rfl rfl rfl) (wm rfl ?_))
   obtain ⟨r13, e15, h14⟩ := obn_e h12
   refine wcl (Hr := [.blk b_first [rB false] 4, .blk bx_l [rv (.pointer (some ⟨b_l, 0, none⟩))] 62, .blk b_c (eTApiCell c) 54]) Tryd.call42 (vQuote_w F b_l v7 r8 key r13 e15) rfl (List.Perm.refl _) rfl ?_
   rintro _ _ ⟨v16, rfl, rfl⟩
   refine wl_x (wc_region (wv (o_load (i := 2) Tryd.isAgg62 rfl rfl rfl) ?_))
   obtain ⟨g17, h18⟩ := chk_e h14
   obtain ⟨g19, h20⟩ := chk_e h18
   refine w_call (rs := [rv (.pointer (some ⟨b_l, 0, none⟩)), rI .u8 58]) (Hin := [.bld 65 5 b_l v16 r13]) (Hr := [.blk b_first [rB false] 4, .blk bx_l [rv (.pointer (some ⟨b_l, 0, none⟩))] 62, .blk b_c (eTApiCell c) 54]) Tryd.call43 rfl (List.Perm.refl _) (writeByte_q b_l v16 r13 58 g17 g19) rfl ?_
   rintro _ _ ⟨v21, rfl, rfl⟩
   obtain ⟨r22, e24, h23⟩ := bnd_e h20
   rw [← e24]
   refine wl_y (wv (o_load (i := 2) Tryd.isAgg62 rfl rfl rfl) (wm rfl ?_))
   obtain ⟨r25, e27, h26⟩ := obn_e h23
   refine wcl (Hr := [.blk b_first [rB false] 4, .blk bx_l [rv (.pointer (some ⟨b_l, 0, none⟩))] 62, .blk b_c (eTApiCell c) 54]) Tryd.call29 (ih_vWrite b_l v21 r22 x r25 e27) rfl (List.Perm.refl _) rfl ?_
   rintro _ _ ⟨v28, rfl, rfl⟩
   refine wl_y (wv (r := rB true) (o_assign rfl) (wl_x (wc_ret (wk_perm (H2 := [.blk b_first [rB false] 4, .blk bx_l [rv (.pointer (some ⟨b_l, 0, none⟩))] 62, .bld 65 5 b_l v28 r25, .blk b_c (eTApiCell c) 54]) ((perm_front (i := 1) rfl).trans (List.Perm.cons _ ((perm_front (i := 1) rfl).trans (List.Perm.cons _ (List.Perm.refl _))))) ?_))))
   obtain rfl := some_e h26
   exact wk_ret (r_1 Tryd.results45 (rv_t rfl)) (sC (sC (sC (sC sN)))) ⟨v28, rfl, rfl⟩
  ·have h29 := cnd_f c11 h9
   refine wc_skip (wk_x (wc_sr (wv (o_load (i := 2) Tryd.isAgg62 rfl rfl rfl) (wm rfl ?_))))
   obtain ⟨r30, e32, h31⟩ := obn_e h29
   refine wcl (Hr := [.blk b_first [rB false] 4, .blk bx_l [rv (.pointer (some ⟨b_l, 0, none⟩))] 62, .blk b_c (eTApiCell c) 54]) Tryd.call29 (ih_vWrite b_l v7 r8 x r30 e32) rfl (List.Perm.refl _) rfl ?_
   rintro _ _ ⟨v33, rfl, rfl⟩
   refine wl_y (wv (r := rB true) (o_assign rfl) (wl_x (wc_ret (wk_perm (H2 := [.blk b_first [rB false] 4, .blk bx_l [rv (.pointer (some ⟨b_l, 0, none⟩))] 62, .bld 65 5 b_l v33 r30, .blk b_c (eTApiCell c) 54]) ((perm_front (i := 1) rfl).trans (List.Perm.cons _ ((perm_front (i := 1) rfl).trans (List.Perm.cons _ (List.Perm.refl _))))) ?_))))
   obtain rfl := some_e h31
   exact wk_ret (r_1 Tryd.results45 (rv_t rfl)) (sC (sC (sC (sC sN)))) ⟨v33, rfl, rfl⟩
 ·have h34 := cnd_f c1 h
  refine wc_skip (wk_x (wc_sr (u_store (i := 0) Tryd.sizeOf4 rfl rfl (one_c rfl) rfl rfl (cs' := [rB false]) rfl (H' := [.blk b_first [rB false] 4, .blk bx_l [rv (.pointer (some ⟨b_l, 0, none⟩))] 62, .bld 65 5 b_l v_l l, .blk b_c (eTApiCell c) 54]) rfl (wl_x (wc_seq (wc_sr (wv (o_fieldAddr Tryd.underlying54 rfl Tryd.sizeOf52 rfl rfl) (wv (o_load (i := 3) Tryd.isAgg52 rfl rfl rfl) (wv (o_eq rfl rfl) (wl_x (wc_cond (b := decide (c.fKind = 6)) rfl (fun c35 => ?_) (fun c35 => ?_))))))))))))
  ·have h36 := cnd_t c35 h34
   refine wc_sr (wv (o_load (i := 1) Tryd.isAgg62 rfl rfl rfl) (wm rfl ?_))
   obtain ⟨r37, e39, h38⟩ := obn_e h36
   refine wcl (Hr := [.blk b_first [rB false] 4, .blk bx_l [rv (.pointer (some ⟨b_l, 0, none⟩))] 62, .blk b_c (eTApiCell c) 54]) Tryd.call42 (vQuote_w F b_l v_l l key r37 e39) rfl ((perm_front (i := 2) rfl).trans (List.Perm.cons _ (List.Perm.refl _))) rfl ?_
   rintro _ _ ⟨v40, rfl, rfl⟩
   refine wl_x (wc_region (wv (o_load (i := 2) Tryd.isAgg62 rfl rfl rfl) ?_))
   obtain ⟨g41, h42⟩ := chk_e h38
   obtain ⟨g43, h44⟩ := chk_e h42
   refine w_call (rs := [rv (.pointer (some ⟨b_l, 0, none⟩)), rI .u8 58]) (Hin := [.bld 65 5 b_l v40 r37]) (Hr := [.blk b_first [rB false] 4, .blk bx_l [rv (.pointer (some ⟨b_l, 0, none⟩))] 62, .blk b_c (eTApiCell c) 54]) Tryd.call43 rfl (List.Perm.refl _) (writeByte_q b_l v40 r37 58 g41 g43) rfl ?_
   rintro _ _ ⟨v45, rfl, rfl⟩
   obtain ⟨r46, e48, h47⟩ := bnd_e h44
   rw [← e48]
   refine wl_y (wv (o_load (i := 2) Tryd.isAgg62 rfl rfl rfl) (wm rfl ?_))
   obtain ⟨r49, e51, h50⟩ := obn_e h47
   refine wcl (Hr := [.blk b_first [rB false] 4, .blk bx_l [rv (.pointer (some ⟨b_l, 0, none⟩))] 62, .blk b_c (eTApiCell c) 54]) Tryd.call29 (ih_vWrite b_l v45 r46 x r49 e51) rfl (List.Perm.refl _) rfl ?_
   rintro _ _ ⟨v52, rfl, rfl⟩
   refine wl_y (wv (r := rB true) (o_assign rfl) (wl_x (wc_ret (wk_perm (H2 := [.blk b_first [rB false] 4, .blk bx_l [rv (.pointer (some ⟨b_l, 0, none⟩))] 62, .bld 65 5 b_l v52 r49, .blk b_c (eTApiCell c) 54]) ((perm_front (i := 1) rfl).trans (List.Perm.cons _ ((perm_front (i := 1) rfl).trans (List.Perm.cons _ (List.Perm.refl _))))) ?_))))
   obtain rfl := some_e h50
   exact wk_ret (r_1 Tryd.results45 (rv_t rfl)) (sC (sC (sC (sC sN)))) ⟨v52, rfl, rfl⟩
  ·have h53 := cnd_f c35 h34
   refine wc_skip (wk_x (wc_sr (wv (o_load (i := 1) Tryd.isAgg62 rfl rfl rfl) (wm rfl ?_))))
   obtain ⟨r54, e56, h55⟩ := obn_e h53
   refine wcl (Hr := [.blk b_first [rB false] 4, .blk bx_l [rv (.pointer (some ⟨b_l, 0, none⟩))] 62, .blk b_c (eTApiCell c) 54]) Tryd.call29 (ih_vWrite b_l v_l l x r54 e56) rfl ((perm_front (i := 2) rfl).trans (List.Perm.cons _ (List.Perm.refl _))) rfl ?_
   rintro _ _ ⟨v57, rfl, rfl⟩
   refine wl_y (wv (r := rB true) (o_assign rfl) (wl_x (wc_ret (wk_perm (H2 := [.blk b_first [rB false] 4, .blk bx_l [rv (.pointer (some ⟨b_l, 0, none⟩))] 62, .bld 65 5 b_l v57 r54, .blk b_c (eTApiCell c) 54]) ((perm_front (i := 1) rfl).trans (List.Perm.cons _ ((perm_front (i := 1) rfl).trans (List.Perm.cons _ (List.Perm.refl _))))) ?_))))
   obtain rfl := some_e h55
   exact wk_ret (r_1 Tryd.results45 (rv_t rfl)) (sC (sC (sC (sC sN)))) ⟨v57, rfl, rfl⟩

theorem vWritePm_w (F : Nat) (rec_vWriteF : Str → (List TApiCell) → Bool → Str → TApiCell → Option (Bool × Bool × Str)) (ih_vWriteF : (∀ (b_first : Nat) (bx_l : Nat) (b_l : Nat) (v_l : Value) (b_c : Nat) (key : Str) (x : (List TApiCell)) (first : Bool) (l : Str) (c : TApiCell) (r : Bool × Bool × Str), rec_vWriteF key x first l c = some r → Fn Tryd.prog GE 45 [rS key, rSl 4 (List.map eTApiCell x), rv (.pointer (some ⟨b_first, 0, none⟩)), rv (.pointer (some ⟨bx_l, 0, none⟩)), rv (.pointer (some ⟨b_c, 0, none⟩))] [.blk b_first [rB first] 4, .blk bx_l [rv (.pointer (some ⟨b_l, 0, none⟩))] 62, .bld 65 5 b_l v_l l, .blk b_c (eTApiCell c) 54] (fun R H => ∃ w3b : Value, R = rB r.1 ∧ H = [.blk b_first [rB r.2.1] 4, .blk bx_l [rv (.pointer (some ⟨b_l, 0, none⟩))] 62, .bld 65 5 b_l w3b r.2.2, .blk b_c (eTApiCell c) 54]))) (b_first : Nat) (bx_l : Nat) (b_l : Nat) (v_l : Value) (b_c : Nat) (v : (List TApiCell)) (first : Bool) (l : Str) (c : TApiCell) (r : Bool × Str) (h : vWritePm F rec_vWriteF v first l c = some r) : Fn Tryd.prog GE 44 [rSl 4 (List.map eTApiCell v), rv (.func (.func 45) #[] #[(.pointer (some ⟨b_first, 0, none⟩)), (.pointer (some ⟨bx_l, 0, none⟩)), (.pointer (some ⟨b_c, 0, none⟩))])] [.blk b_first [rB first] 4, .blk bx_l [rv (.pointer (some ⟨b_l, 0, none⟩))] 62, .bld 65 5 b_l v_l l, .blk b_c (eTApiCell c) 54] (fun R H => ∃ w1_1b : Value, R = rv (.tuple #[]) ∧ H = [.blk b_first [rB r.1] 4, .blk bx_l [rv (.pointer (some ⟨b_l, 0, none⟩))] 62, .bld 65 5 b_l w1_1b r.2, .blk b_c (eTApiCell c) 54]) := by
 refine enter (n := 52) Tryd.func44 rfl Tryd.ntmps44 rfl (fun w Z => ?_)
 refine wc_as (l' := [(0, rSl 4 (List.map eTApiCell v)), (1, rv (.func (.func 45) #[] #[(.pointer (some ⟨b_first, 0, none⟩)), (.pointer (some ⟨bx_l, 0, none⟩)), (.pointer (some ⟨b_c, 0, none⟩))]))]) (H' := [.blk b_first [rB first] 4, .blk bx_l [rv (.pointer (some ⟨b_l, 0, none⟩))] 62, .bld 65 5 b_l v_l l, .blk b_c (eTApiCell c) 54]) rfl rfl ?_
 unfold vWritePm at h
 refine wc_sr (wv (r := rI .i64 1) (o_assign rfl) (wl_y (wm rfl ?_)))
 obtain ⟨g1, h2⟩ := chk_e h
 refine wv (o_ix_z (enc := eTApiCell) (ys := v) Tryd.underlying22 Tryd.sizeOf54 rfl rfl g1) (wv (o_fieldAddr_z Tryd.underlying54 rfl Tryd.sizeOf3 rfl rfl) (wv (o_load_z Tryd.isAgg3 rfl rfl) (wv (r := rI .i64 0) (o_move rfl) (wl_x (wc_block ?_)))))
 obtain ⟨o166, eo167, hK168⟩ := obn_e h2
 refine wc_loop2 (S := Nat × (Int × Int × Bool × Str) × (Value)) (V := (Bool × Str) × (Value)) 0 (fun σ => lop (fun σ => vWriteP_b1 F v c rec_vWriteF σ.1 σ.2.1 σ.2.2.1 σ.2.2.2) σ.1 σ.2.1 = some o166) (fun σ => [(0, rSl 4 (List.map eTApiCell v)), (1, rv (.func (.func 45) #[] #[(.pointer (some ⟨b_first, 0, none⟩)), (.pointer (some ⟨bx_l, 0, none⟩)), (.pointer (some ⟨b_c, 0, none⟩))])), (4, rI .i64 σ.2.1.1), (12, rI .i64 ((at' v 0).fN)), (13, rI .i64 σ.2.1.2.1)]) (fun σ => [.blk b_first [rB σ.2.1.2.2.1] 4, .blk bx_l [rv (.pointer (some ⟨b_l, 0, none⟩))] 62, .bld 65 5 b_l σ.2.2 σ.2.1.2.2.2, .blk b_c (eTApiCell c) 54]) (fun σ => σ.1) (F, (1, 0, first, l), v_l) eo167 (Sub.c5 rfl rfl rfl rfl rfl Sub.nil) (sC (sC (sC (sC sN)))) (fun σ => vWriteP_k1 σ.1.1 σ.1.2 = some r) (fun σ => []) (fun σ => [.blk b_first [rB σ.1.1] 4, .blk bx_l [rv (.pointer (some ⟨b_l, 0, none⟩))] 62, .bld 65 5 b_l σ.2 σ.1.2, .blk b_c (eTApiCell c) 54]) ?_ ?_
 ·rintro ⟨n174, ⟨x106, x107, x108, x109⟩, v110⟩ hi172
  refine wc_as (l' := [(0, rSl 4 (List.map eTApiCell v)), (1, rv (.func (.func 45) #[] #[(.pointer (some ⟨b_first, 0, none⟩)), (.pointer (some ⟨bx_l, 0, none⟩)), (.pointer (some ⟨b_c, 0, none⟩))])), (4, rI .i64 x106), (12, rI .i64 ((at' v 0).fN)), (13, rI .i64 x107)]) (H' := [.blk b_first [rB x108] 4, .blk bx_l [rv (.pointer (some ⟨b_l, 0, none⟩))] 62, .bld 65 5 b_l v110 x109, .blk b_c (eTApiCell c) 54]) rfl rfl ?_
  obtain ⟨m171, rfl, t169, h173, ht170⟩ := lop_e hi172
  replace h173 : vWriteP_b1 F v c rec_vWriteF x106 x107 x108 x109 = some t169 := h173
  unfold vWriteP_b1 at h173
  refine wc_sr (wv (o_lt rfl rfl) (wl_x (wc_seq (wc_cond (b := decide (x107 < ((at' v 0).fN))) rfl (fun c175 => ?_) (fun c175 => ?_)))))
  ·have h176 := cnd_t c175 h173
   refine wc_skip (wk_x (wc_seq (wc_block (wc_sr (wv (r := rS ([] : Str)) (o_assign rfl) (wl_x (wc_seq (wc_sr (wm rfl (wv (o_ix_z (enc := eTApiCell) (ys := v) Tryd.underlying22 Tryd.sizeOf54 rfl rfl g1) (wv (o_fieldAddr_z Tryd.underlying54 rfl Tryd.sizeOf52 rfl rfl) (wv (o_load_z Tryd.isAgg52 rfl rfl) (wv (o_eq rfl rfl) (wl_x (wc_cond (b := decide (((at' v 0).fKind) = 6)) rfl (fun c177 => ?_) (fun c177 => ?_))))))))))))))))
   ·have h178 := cnd_t c177 h176
    refine wc_sr (wm rfl (wm rfl ?_))
    obtain ⟨g179, h180⟩ := chk_e h178
    refine wv (o_ix_z (enc := eTApiCell) (ys := v) Tryd.underlying22 Tryd.sizeOf54 rfl rfl g179) (wv (o_fieldAddr_z Tryd.underlying54 rfl Tryd.sizeOf9 rfl rfl) (wv (o_load_z Tryd.isAgg9 rfl rfl) (wa rfl (wl_x (wc_region (wm rfl ?_))))))
    obtain ⟨g181, h182⟩ := chk_e h180
    refine wv (o_add rfl rfl g181) (wa rfl (wl_y (wm rfl (wm rfl ?_))))
    obtain ⟨g183, h184⟩ := chk_e h182
    refine wv (r := rSl 4 (List.map eTApiCell (List.drop (Int.toNat (x106 + 1)) v))) (o_slice_zl Tryd.underlying22 Tryd.sizeOf54 rfl rfl g183) ?_
    obtain ⟨r185, e187, h186⟩ := obn_e h184
    refine wc0 Tryd.call38 (vLook_w F (List.drop (Int.toNat (x106 + 1)) v) r185 e187) rfl (wm rfl (wv (o_extract rfl rfl) (wv (o_extract rfl rfl) (wv (o_extract rfl rfl) (w_alloc (cs := [rI .i64 0, rI .i64 0, rB false, rB false]) Tryd.zeroValue80 rfl rfl (fun b188 => ?_))))))
    refine wa rfl (u_store_agg (i := 0) Tryd.sizeOf80 rfl rfl rfl (OneAll.c rfl) rfl rfl (cs' := [rI .i64 r185.2.1.fDepth, rI .i64 r185.2.1.fBytes, rB r185.2.1.fOutside, rB r185.2.1.fLong]) rfl (H' := [.blk b188 (eTValueShape r185.2.1) 80, .blk b_first [rB x108] 4, .blk bx_l [rv (.pointer (some ⟨b_l, 0, none⟩))] 62, .bld 65 5 b_l v110 x109, .blk b_c (eTApiCell c) 54]) rfl (wa rfl (wl_x (wc_seq (wc_sr (wm rfl (wm rfl (wm rfl (wm rfl (wm rfl (wm rfl ?_)))))))))))
    obtain ⟨g189, h190⟩ := chk_e h186
    refine wv (o_add rfl rfl g189) (wm rfl (wm rfl (wv (o_add rfl rfl g189) ?_)))
    obtain ⟨g191, h192⟩ := chk_e h190
    obtain ⟨g193, h194⟩ := chk_e h192
    refine wv (r := rSl 4 (List.map eTApiCell (List.take (Int.toNat ((x106 + 1) + r185.1) - Int.toNat (x106 + 1)) (List.drop (Int.toNat (x106 + 1)) v)))) (o_slice_zm Tryd.underlying22 Tryd.sizeOf54 rfl rfl rfl rfl g191 g193) ?_
    obtain ⟨r195, e197, h196⟩ := obn_e h194
    refine w_callc (rs := [rS ((at' v x106).fStr), rSl 4 (List.map eTApiCell (List.take (Int.toNat ((x106 + 1) + r185.1) - Int.toNat (x106 + 1)) (List.drop (Int.toNat (x106 + 1)) v)))]) (Hin := [.blk b_first [rB x108] 4, .blk bx_l [rv (.pointer (some ⟨b_l, 0, none⟩))] 62, .bld 65 5 b_l v110 x109, .blk b_c (eTApiCell c) 54]) (Hr := [.blk b188 (eTValueShape r185.2.1) 80]) Tryd.call45 rfl rfl ((perm_front (i := 1) rfl).trans (List.Perm.cons _ ((perm_front (i := 1) rfl).trans (List.Perm.cons _ ((perm_front (i := 1) rfl).trans (List.Perm.cons _ ((perm_front (i := 1) rfl).trans (List.Perm.cons _ (List.Perm.refl _))))))))) (ih_vWriteF b_first bx_l b_l v110 b_c ((at' v x106).fStr) (List.take (Int.toNat ((x106 + 1) + r185.1) - Int.toNat (x106 + 1)) (List.drop (Int.toNat (x106 + 1)) v)) x108 x109 c r195 e197) rfl ?_
    rintro _ _ ⟨v198, rfl, rfl⟩
    refine wv (o_not rfl) (wl_x (wc_cond (b := !r195.1) rfl (fun c199 => ?_) (fun c199 => ?_)))
    ·have h200 := cnd_t c199 h196
     refine wc_ret (wk_then_ret (wk_in_ret (wk_then_ret (wk_then_ret (wk_cut_ret ?_)))))
     have h201 := stp_ret h200 ht170 hK168
     refine wk_in_ret ?_
     obtain rfl := some_e h201
     exact wk_ret (r_0 Tryd.results44) (sC (sC (sC (sC (sS sN))))) ⟨v198, rfl, rfl⟩
    ·have h202 := cnd_f c199 h196
     refine wc_skip (wk_x (wc_region (wm rfl (wm rfl (wv (o_add rfl rfl g189) (wa rfl (wl_nil (wk_in_norm (wk_x (wc_region ?_))))))))))
     obtain ⟨g203, h204⟩ := chk_e h202
     refine wv (o_add rfl rfl g203) (wm rfl (wl_nil ?_))
     have h205 := stp_next h204 ht170
     exact wk_then (wk_some (m171, ((x106 + 1) + r185.1, x107 + 1, r195.2.1, r195.2.2), v198) ⟨h205, Nat.lt_succ_self _⟩ (Sub.c5 rfl rfl rfl rfl rfl Sub.nil) (sC (sC (sC (sC (sS sN))))))
   ·have h206 := cnd_f c177 h176
    refine wc_skip (wk_x (wc_sr (wm rfl (wm rfl ?_))))
    obtain ⟨g207, h208⟩ := chk_e h206
    refine wv (r := rSl 4 (List.map eTApiCell (List.drop (Int.toNat x106) v))) (o_slice_zl Tryd.underlying22 Tryd.sizeOf54 rfl rfl g207) ?_
    obtain ⟨r209, e211, h210⟩ := obn_e h208
    refine wc0 Tryd.call38 (vLook_w F (List.drop (Int.toNat x106) v) r209 e211) rfl (wm rfl (wv (o_extract rfl rfl) (wv (o_extract rfl rfl) (wv (o_extract rfl rfl) (w_alloc (cs := [rI .i64 0, rI .i64 0, rB false, rB false]) Tryd.zeroValue80 rfl rfl (fun b212 => ?_))))))
    refine wa rfl (u_store_agg (i := 0) Tryd.sizeOf80 rfl rfl rfl (OneAll.c rfl) rfl rfl (cs' := [rI .i64 r209.2.1.fDepth, rI .i64 r209.2.1.fBytes, rB r209.2.1.fOutside, rB r209.2.1.fLong]) rfl (H' := [.blk b212 (eTValueShape r209.2.1) 80, .blk b_first [rB x108] 4, .blk bx_l [rv (.pointer (some ⟨b_l, 0, none⟩))] 62, .bld 65 5 b_l v110 x109, .blk b_c (eTApiCell c) 54]) rfl (wa rfl (wl_x (wc_seq (wc_sr (wm rfl (wm rfl (wm rfl (wm rfl (wm rfl (wm rfl ?_)))))))))))
    obtain ⟨g213, h214⟩ := chk_e h210
    refine wv (o_add rfl rfl g213) (wm rfl (wm rfl (wv (o_add rfl rfl g213) ?_)))
    obtain ⟨g215, h216⟩ := chk_e h214
    obtain ⟨g217, h218⟩ := chk_e h216
    refine wv (r := rSl 4 (List.map eTApiCell (List.take (Int.toNat (x106 + r209.1) - Int.toNat x106) (List.drop (Int.toNat x106) v)))) (o_slice_zm Tryd.underlying22 Tryd.sizeOf54 rfl rfl rfl rfl g215 g217) ?_
    obtain ⟨r219, e221, h220⟩ := obn_e h218
    refine w_callc (rs := [rS ([] : Str), rSl 4 (List.map eTApiCell (List.take (Int.toNat (x106 + r209.1) - Int.toNat x106) (List.drop (Int.toNat x106) v)))]) (Hin := [.blk b_first [rB x108] 4, .blk bx_l [rv (.pointer (some ⟨b_l, 0, none⟩))] 62, .bld 65 5 b_l v110 x109, .blk b_c (eTApiCell c) 54]) (Hr := [.blk b212 (eTValueShape r209.2.1) 80]) Tryd.call45 rfl rfl ((perm_front (i := 1) rfl).trans (List.Perm.cons _ ((perm_front (i := 1) rfl).trans (List.Perm.cons _ ((perm_front (i := 1) rfl).trans (List.Perm.cons _ ((perm_front (i := 1) rfl).trans (List.Perm.cons _ (List.Perm.refl _))))))))) (ih_vWriteF b_first bx_l b_l v110 b_c ([] : Str) (List.take (Int.toNat (x106 + r209.1) - Int.toNat x106) (List.drop (Int.toNat x106) v)) x108 x109 c r219 e221) rfl ?_
    rintro _ _ ⟨v222, rfl, rfl⟩
    refine wv (o_not rfl) (wl_x (wc_cond (b := !r219.1) rfl (fun c223 => ?_) (fun c223 => ?_)))
    ·have h224 := cnd_t c223 h220
     refine wc_ret (wk_then_ret (wk_in_ret (wk_then_ret (wk_then_ret (wk_cut_ret ?_)))))
     have h225 := stp_ret h224 ht170 hK168
     refine wk_in_ret ?_
     obtain rfl := some_e h225
     exact wk_ret (r_0 Tryd.results44) (sC (sC (sC (sC (sS sN))))) ⟨v222, rfl, rfl⟩
    ·have h226 := cnd_f c223 h220
     refine wc_skip (wk_x (wc_region (wm rfl (wm rfl (wv (o_add rfl rfl g213) (wa rfl (wl_nil (wk_in_norm (wk_x (wc_region ?_))))))))))
     obtain ⟨g227, h228⟩ := chk_e h226
     refine wv (o_add rfl rfl g227) (wm rfl (wl_nil ?_))
     have h229 := stp_next h228 ht170
     exact wk_then (wk_some (m171, (x106 + r209.1, x107 + 1, r219.2.1, r219.2.2), v222) ⟨h229, Nat.lt_succ_self _⟩ (Sub.c5 rfl rfl rfl rfl rfl Sub.nil) (sC (sC (sC (sC (sS sN))))))
  ·have h230 := cnd_f c175 h173
   refine wc_exit (wk_then_exit ?_)
   have h231 := stp_go h230 ht170 hK168
   exact wk_then_exit (wk_cut_hit (wk_some ((x108, x109), v110) h231 Sub.nil (sC (sC (sC (sC sN))))))
 ·rintro ⟨⟨x163, x164⟩, v165⟩ h232
  refine wk_as (l' := []) (H' := [.blk b_first [rB x163] 4, .blk bx_l [rv (.pointer (some ⟨b_l, 0, none⟩))] 62, .bld 65 5 b_l v165 x164, .blk b_c (eTApiCell c) 54]) rfl rfl ?_
  replace h232 : vWriteP_k1 x163 x164 = some r := h232
  unfold vWriteP_k1 at h232
  refine wk_in_hit ?_
  obtain rfl := some_e h232
  exact wk_end (r_0 Tryd.results44) (sC (sC (sC (sC sN)))) ⟨v165, rfl, rfl⟩

theorem vWrite_all : ∀ F : Nat, (∀ (b_l : Nat) (v_l : Value) (l : Str) (v : (List TApiCell)) (r : Str), vWrite F l v = some r → Fn Tryd.prog GE 29 [rv (.pointer (some ⟨b_l, 0, none⟩)), rSl 4 (List.map eTApiCell v)] [.bld 65 5 b_l v_l l] (fun R H => ∃ w0b : Value, R = rv (.tuple #[]) ∧ H = [.bld 65 5 b_l w0b r])) ∧ (∀ (b_first : Nat) (bx_l : Nat) (b_l : Nat) (v_l : Value) (b_c : Nat) (key : Str) (x : (List TApiCell)) (first : Bool) (l : Str) (c : TApiCell) (r : Bool × Bool × Str), vWriteF F key x first l c = some r → Fn Tryd.prog GE 45 [rS key, rSl 4 (List.map eTApiCell x), rv (.pointer (some ⟨b_first, 0, none⟩)), rv (.pointer (some ⟨bx_l, 0, none⟩)), rv (.pointer (some ⟨b_c, 0, none⟩))] [.blk b_first [rB first] 4, .blk bx_l [rv (.pointer (some ⟨b_l, 0, none⟩))] 62, .bld 65 5 b_l v_l l, .blk b_c (eTApiCell c) 54] (fun R H => ∃ w3b : Value, R = rB r.1 ∧ H = [.blk b_first [rB r.2.1] 4, .blk bx_l [rv (.pointer (some ⟨b_l, 0, none⟩))] 62, .bld 65 5 b_l w3b r.2.2, .blk b_c (eTApiCell c) 54])) ∧ (∀ (b_first : Nat) (bx_l : Nat) (b_l : Nat) (v_l : Value) (b_c : Nat) (v : (List TApiCell)) (first : Bool) (l : Str) (c : TApiCell) (r : Bool × Str), vWriteP F v first l c = some r → Fn Tryd.prog GE 44 [rSl 4 (List.map eTApiCell v), rv (.func (.func 45) #[] #[(.pointer (some ⟨b_first, 0, none⟩)), (.pointer (some ⟨bx_l, 0, none⟩)), (.pointer (some ⟨b_c, 0, none⟩))])] [.blk b_first [rB first] 4, .blk bx_l [rv (.pointer (some ⟨b_l, 0, none⟩))] 62, .bld 65 5 b_l v_l l, .blk b_c (eTApiCell c) 54] (fun R H => ∃ w1_1b : Value, R = rv (.tuple #[]) ∧ H = [.blk b_first [rB r.1] 4, .blk bx_l [rv (.pointer (some ⟨b_l, 0, none⟩))] 62, .bld 65 5 b_l w1_1b r.2, .blk b_c (eTApiCell c) 54]))
  | 0 => ⟨(fun _ _ _ _ _ h => by simp [vWrite] at h), (fun _ _ _ _ _ _ _ _ _ _ _ h => by simp [vWriteF] at h), (fun _ _ _ _ _ _ _ _ _ _ h => by simp [vWriteP] at h)⟩
  | nn + 1 => ⟨(fun b_l v_l l v r h => vWritem_w nn (vWriteF nn) (vWriteP nn) (vWrite_all nn).2.1 (vWrite_all nn).2.2 b_l v_l l v r (by rw [vWrite] at h; exact h)), (fun b_first bx_l b_l v_l b_c key x first l c r h => vWriteFm_w nn (vWrite nn) (vWrite_all nn).1 b_first bx_l b_l v_l b_c key x first l c r (by rw [vWriteF] at h; exact h)), (fun b_first bx_l b_l v_l b_c v first l c r h => vWritePm_w nn (vWriteF nn) (vWrite_all nn).2.1 b_first bx_l b_l v_l b_c v first l c r (by rw [vWriteP] at h; exact h))⟩

theorem vWrite_w (F : Nat) (b_l : Nat) (v_l : Value) (l : Str) (v : (List TApiCell)) (r : Str) (h : vWrite F l v = some r) : Fn Tryd.prog GE 29 [rv (.pointer (some ⟨b_l, 0, none⟩)), rSl 4 (List.map eTApiCell v)] [.bld 65 5 b_l v_l l] (fun R H => ∃ w0b : Value, R = rv (.tuple #[]) ∧ H = [.bld 65 5 b_l w0b r]) := (vWrite_all F).1 b_l v_l l v r h

theorem vEncode_w (F : Nat) (v : (List TApiCell)) (r : Str × Int) (h : vEncode F v = some r) : Fn Tryd.prog GE 16 [rSl 4 (List.map eTApiCell v)] [] (fun R H => R = rTup [rS r.1, rI .i64 r.2] ∧ H = []) := by
 refine enter (n := 14) Tryd.func16 rfl Tryd.ntmps16 rfl (fun w Z => ?_)
 refine wc_as (l' := [(0, rSl 4 (List.map eTApiCell v))]) (H' := []) rfl rfl ?_
 unfold vEncode at h
 refine wc_sr (wv (r := rS ([] : Str)) (o_assign rfl) (wv (r := rI .i64 0) (o_assign rfl) (wl_x (wc_seq (wc_sr (wm rfl ?_))))))
 obtain ⟨r1, e3, h2⟩ := obn_e h
 refine wc0 Tryd.call24 (vCheck_w F v r1 e3) rfl (wa rfl (wl_y (wm rfl (wv (o_ne rfl rfl) (wl_x (wc_cond (b := !decide (r1 = 0)) rfl (fun c4 => ?_) (fun c4 => ?_)))))))
 ·have h5 := cnd_t c4 h2
  refine wc_sr (wm rfl (wv (r := rS ([] : Str)) (o_assign rfl) (wa rfl (wl_x (wc_ret (wk_then_ret ?_))))))
  obtain rfl := some_e h5
  exact wk_ret (r_2 Tryd.results16 (rv_t rfl) (rv_t rfl)) sN ⟨rfl, rfl⟩
 ·have h6 := cnd_f c4 h2
  refine wc_skip (wk_x (wc_sr (w_alloc (cs := [rv (.pointer none), rv (.slice none 0 0)]) Tryd.zeroValue65 rfl rfl (fun b7 => ?_))))
  refine wl_y (wm rfl (WL.tobld (te := 5) (i := 0) rfl ?_))
  obtain ⟨r8, e10, h9⟩ := obn_e h6
  refine wcl (Hr := []) Tryd.call29 (vWrite_w F b7 (.slice none 0 0) ([] : Str) v r8 e10) rfl (List.Perm.refl _) rfl ?_
  rintro _ _ ⟨v11, rfl, rfl⟩
  refine wl_y ?_
  obtain ⟨g12, h13⟩ := chk_e h9
  refine w_call (rs := [rv (.pointer (some ⟨b7, 0, none⟩))]) (Hin := [.bld 65 5 b7 v11 r8]) (Hr := []) Tryd.call30 rfl (List.Perm.refl _) (bstring_q b7 v11 r8  g12) rfl ?_
  rintro _ _ ⟨rfl, rfl⟩
  refine wa rfl (wv (r := rI .i64 0) (o_assign rfl) (wl_x (wc_ret ?_)))
  obtain rfl := some_e h13
  exact wk_ret (r_2 Tryd.results16 (rv_t rfl) (rv_t rfl)) sN ⟨rfl, rfl⟩

end Go.Proofs.YtpmiamphppcfeaaDoor.Q

/-
 What functions compute, with checks: plain definitions, printed by a small program of ours (gq.py). No program in sight.
-/
namespace Go.Proofs.YtpmiamphppcfeaaDoor
open Go
set_option linter.unusedVariables false
structure TValueReader where
 fS : Str
 fAt : Int
 fCells : (List TApiCell)
 fGreat : Bool
 deriving DecidableEq, Inhabited
def slHasPrefix (s : Str) (p : Str) : Option (Bool) :=
 chk (imp (decide ((p.length : Int) ≤ (s.length : Int))) (inC (p.length : Int) (s.length : Int))) <| some ((decide ((p.length : Int) ≤ (s.length : Int))) && (decide ((List.take (Int.toNat (p.length : Int)) s) = p)))

def hasPrefix (s : Str) (p : Str) : Option (Bool) :=
 obn (slHasPrefix s p) fun r1 => some r1

def vTake (q : TValueReader) (s : Str) : Option (Bool × TValueReader) :=
 chk (inC q.fAt (q.fS.length : Int)) <| obn (hasPrefix (List.drop (Int.toNat q.fAt) q.fS) s) fun r3 => cnd (!r3) (some (false, q)) (chk (inK .i64 (q.fAt + (s.length : Int))) <| some (true, (TValueReader.mk q.fS (q.fAt + (s.length : Int)) q.fCells q.fGreat)))

def vRStr_j2 (x366 : (List Int)) (x462 : Int) (x463 : Int) : Option (Stp ((List Int) × Int) (Out (Str × Bool × TValueReader) (Int))) :=
 chk (inA 1 (x366.length + ([x462] : List Int).length)) <| some (.next (x366 ++ ([x462] : List Int), x463))

def vRStr_b1 (r1 : Bool × TValueReader) (x366 : (List Int)) (x368 : Int) : Option (Stp ((List Int) × Int) (Out (Str × Bool × TValueReader) (Int))) :=
 cnd (decide (x368 < (r1.2.fS.length : Int))) (chk (inR x368 (r1.2.fS.length : Int)) <| chk (inK .i64 (x368 + 1)) <| cnd (decide ((bat r1.2.fS x368) = 34)) (some (.out (.ret (ofI x366, true, (TValueReader.mk r1.2.fS (x368 + 1) r1.2.fCells r1.2.fGreat))))) (cnd (((decide ((bat r1.2.fS x368) < 32)) || (decide (126 < (bat r1.2.fS x368))))) (some (.out (.ret (([] : Str), false, (TValueReader.mk r1.2.fS (x368 + 1) r1.2.fCells r1.2.fGreat))))) (cnd (decide ((bat r1.2.fS x368) = 92)) (chk (imp (!(decide ((r1.2.fS.length : Int) ≤ (x368 + 1)))) (inR (x368 + 1) (r1.2.fS.length : Int))) <| cnd (((decide ((r1.2.fS.length : Int) ≤ (x368 + 1))) || ((!decide ((bat r1.2.fS (x368 + 1)) = 34)) && (!decide ((bat r1.2.fS (x368 + 1)) = 92))))) (some (.out (.ret (([] : Str), false, (TValueReader.mk r1.2.fS (x368 + 1) r1.2.fCells r1.2.fGreat))))) (chk (inR (x368 + 1) (r1.2.fS.length : Int)) <| chk (inK .i64 ((x368 + 1) + 1)) <| vRStr_j2 x366 (bat r1.2.fS (x368 + 1)) ((x368 + 1) + 1))) (vRStr_j2 x366 (bat r1.2.fS x368) (x368 + 1))))) (some (.out (.go x368)))

def vRStr_k1 (r1 : Bool × TValueReader) (x425 : Int) : Option (Str × Bool × TValueReader) :=
 some (([] : Str), false, (TValueReader.mk r1.2.fS x425 r1.2.fCells r1.2.fGreat))

def vRStr (F : Nat) (q : TValueReader) : Option (Str × Bool × TValueReader) :=
 obn (vTake q ([34] : Str)) fun r1 => cnd (!r1.1) (some (([] : Str), false, r1.2)) (obn (lop (fun σ => vRStr_b1 r1 σ.1 σ.2) F (([] : List Int), r1.2.fAt)) (oute fun ν => vRStr_k1 r1 ν))

def vRInt_b1 (r1 : Bool × TValueReader) (x75 : Int) : Option (Stp (Int) (Out (Bool × TValueReader) (Int))) :=
 chk (imp (decide (x75 < (r1.2.fS.length : Int))) (inR x75 (r1.2.fS.length : Int))) <| cnd (((decide (x75 < (r1.2.fS.length : Int))) && ((decide (48 ≤ (bat r1.2.fS x75))) && (decide ((bat r1.2.fS x75) ≤ 57))))) (chk (inK .i64 (x75 + 1)) <| some (.next (x75 + 1))) (some (.out (.go x75)))

def vRInt_k1 (q : TValueReader) (r1 : Bool × TValueReader) (x85 : Int) : Option (Bool × TValueReader) :=
 chk (inC q.fAt x85) <| chk (inC x85 (r1.2.fS.length : Int)) <| chk (inA 1 (List.take (Int.toNat x85 - Int.toNat q.fAt) (List.drop (Int.toNat q.fAt) r1.2.fS)).length) <| cnd (((decide ((parseE (List.take (Int.toNat x85 - Int.toNat q.fAt) (List.drop (Int.toNat q.fAt) r1.2.fS))) = 1)) || (decide (r1.2.fAt = x85)))) (some (false, (TValueReader.mk r1.2.fS x85 r1.2.fCells r1.2.fGreat))) (chk (inA 40 (r1.2.fCells.length + ([(TApiCell.mk 3 (parseV (List.take (Int.toNat x85 - Int.toNat q.fAt) (List.drop (Int.toNat q.fAt) r1.2.fS))) ([] : Str) 0)] : List TApiCell).length)) <| some (true, (TValueReader.mk r1.2.fS x85 (r1.2.fCells ++ ([(TApiCell.mk 3 (parseV (List.take (Int.toNat x85 - Int.toNat q.fAt) (List.drop (Int.toNat q.fAt) r1.2.fS))) ([] : Str) 0)] : List TApiCell)) (r1.2.fGreat || (!decide ((parseE (List.take (Int.toNat x85 - Int.toNat q.fAt) (List.drop (Int.toNat q.fAt) r1.2.fS))) = 0))))))

def vRInt (F : Nat) (q : TValueReader) : Option (Bool × TValueReader) :=
 obn (vTake q ([45] : Str)) fun r1 => obn (lop (fun σ => vRInt_b1 r1 σ) F r1.2.fAt) (oute fun ν => vRInt_k1 q r1 ν)

def vRScalar_j1 (x57 : Str) (x58 : Int) (x59 : (List TApiCell)) (x61 : Bool) : Option (Bool × TValueReader) :=
 some (true, (TValueReader.mk x57 x58 x59 x61))

def vRScalar (F : Nat) (q : TValueReader) : Option (Bool × TValueReader) :=
 obn (vTake q ([110, 117, 108, 108] : Str)) fun r62 => cnd (r62.1) (chk (inA 40 (r62.2.fCells.length + ([(TApiCell.mk 1 0 ([] : Str) 0)] : List TApiCell).length)) <| vRScalar_j1 r62.2.fS r62.2.fAt (r62.2.fCells ++ ([(TApiCell.mk 1 0 ([] : Str) 0)] : List TApiCell)) r62.2.fGreat) (obn (vTake r62.2 ([116, 114, 117, 101] : Str)) fun r73 => cnd (r73.1) (chk (inA 40 (r73.2.fCells.length + ([(TApiCell.mk 2 1 ([] : Str) 0)] : List TApiCell).length)) <| vRScalar_j1 r73.2.fS r73.2.fAt (r73.2.fCells ++ ([(TApiCell.mk 2 1 ([] : Str) 0)] : List TApiCell)) r73.2.fGreat) (obn (vTake r73.2 ([102, 97, 108, 115, 101] : Str)) fun r84 => cnd (r84.1) (chk (inA 40 (r84.2.fCells.length + ([(TApiCell.mk 2 0 ([] : Str) 0)] : List TApiCell).length)) <| vRScalar_j1 r84.2.fS r84.2.fAt (r84.2.fCells ++ ([(TApiCell.mk 2 0 ([] : Str) 0)] : List TApiCell)) r84.2.fGreat) (chk (inC r84.2.fAt (r84.2.fS.length : Int)) <| obn (hasPrefix (List.drop (Int.toNat r84.2.fAt) r84.2.fS) ([34] : Str)) fun r97 => cnd (r97) (obn (vRStr F r84.2) fun r102 => cnd (!r102.2.1) (some (false, r102.2.2)) (chk (inA 40 (r102.2.2.fCells.length + ([(TApiCell.mk 4 0 r102.1 0)] : List TApiCell).length)) <| vRScalar_j1 r102.2.2.fS r102.2.2.fAt (r102.2.2.fCells ++ ([(TApiCell.mk 4 0 r102.1 0)] : List TApiCell)) r102.2.2.fGreat)) (obn (vRInt F r84.2) fun r114 => some (r114.1, r114.2)))))

def vRValue_b2 (rec_vRValue : TValueReader → Option (Bool × TValueReader)) (x16 : (List TApiCell)) (x107 : Int) (x108 : Str) (x109 : Int) (x110 : (List TApiCell)) (x112 : Bool) : Option (Stp (Int × Str × Int × (List TApiCell) × Bool) (Out (Bool × TValueReader) (Unit))) :=
 obn (rec_vRValue (TValueReader.mk x108 x109 x110 x112)) fun r150 => cnd (!r150.1) (some (.out (.ret (false, r150.2)))) (chk (inR (x16.length : Int) (r150.2.fCells.length : Int)) <| bnd (List.set r150.2.fCells (Int.toNat (x16.length : Int)) (TApiCell.mk ((at' r150.2.fCells (x16.length : Int)).fKind) ((at' r150.2.fCells (x16.length : Int)).fInt) ((at' r150.2.fCells (x16.length : Int)).fStr) x107)) fun r160 => obn (vTake (TValueReader.mk r150.2.fS r150.2.fAt r160 r150.2.fGreat) ([93] : Str)) fun r163 => cnd (r163.1) (some (.out (.ret (true, r163.2)))) (obn (vTake r163.2 ([44] : Str)) fun r171 => cnd (!r171.1) (some (.out (.ret (false, r171.2)))) (chk (inK .i64 (x107 + 1)) <| some (.next (x107 + 1, r171.2.fS, r171.2.fAt, r171.2.fCells, r171.2.fGreat)))))

def vRValue_k2  : Option (Bool × TValueReader) :=
 none

def vRValue_j4 (rec_vRValue : TValueReader → Option (Bool × TValueReader)) (x16 : (List TApiCell)) (x349 : Int) (r449 : Str × Bool × TValueReader) (x473 : Bool) (x474 : Bool) (x475 : Bool) (x476 : Str) (x477 : Int) (x478 : (List TApiCell)) (x480 : Bool) : Option (Stp (Str × Int × Str × Int × (List TApiCell) × Bool) (Out (Bool × TValueReader) (Unit))) :=
 cnd (x475) (some (.out (.ret (false, (TValueReader.mk x476 x477 x478 x480))))) (chk (inA 40 (x478.length + ([(TApiCell.mk 4 0 r449.1 0)] : List TApiCell).length)) <| obn (rec_vRValue (TValueReader.mk x476 x477 (x478 ++ ([(TApiCell.mk 4 0 r449.1 0)] : List TApiCell)) x480)) fun r507 => cnd (!r507.1) (some (.out (.ret (false, r507.2)))) (chk (inR (x16.length : Int) (r507.2.fCells.length : Int)) <| bnd (List.set r507.2.fCells (Int.toNat (x16.length : Int)) (TApiCell.mk ((at' r507.2.fCells (x16.length : Int)).fKind) ((at' r507.2.fCells (x16.length : Int)).fInt) ((at' r507.2.fCells (x16.length : Int)).fStr) x349)) fun r517 => obn (vTake (TValueReader.mk r507.2.fS r507.2.fAt r517 r507.2.fGreat) ([125] : Str)) fun r520 => cnd (r520.1) (some (.out (.ret (true, r520.2)))) (obn (vTake r520.2 ([44] : Str)) fun r528 => cnd (!r528.1) (some (.out (.ret (false, r528.2)))) (chk (inK .i64 (x349 + 1)) <| some (.next (r449.1, x349 + 1, r528.2.fS, r528.2.fAt, r528.2.fCells, r528.2.fGreat))))))

def vRValue_b3 (F : Nat) (rec_vRValue : TValueReader → Option (Bool × TValueReader)) (x16 : (List TApiCell)) (x348 : Str) (x349 : Int) (x350 : Str) (x351 : Int) (x352 : (List TApiCell)) (x354 : Bool) : Option (Stp (Str × Int × Str × Int × (List TApiCell) × Bool) (Out (Bool × TValueReader) (Unit))) :=
 obn (vRStr F (TValueReader.mk x350 x351 x352 x354)) fun r449 => cnd (!r449.2.1) (vRValue_j4 rec_vRValue x16 x349 r449 true true true r449.2.2.fS r449.2.2.fAt r449.2.2.fCells r449.2.2.fGreat) (cnd (decide (1 < x349)) (cnd (sLess r449.1 x348 || decide (r449.1 = x348)) (vRValue_j4 rec_vRValue x16 x349 r449 (sLess r449.1 x348 || decide (r449.1 = x348)) (sLess r449.1 x348 || decide (r449.1 = x348)) true r449.2.2.fS r449.2.2.fAt r449.2.2.fCells r449.2.2.fGreat) (obn (vTake r449.2.2 ([58] : Str)) fun r489 => vRValue_j4 rec_vRValue x16 x349 r449 (sLess r449.1 x348 || decide (r449.1 = x348)) (sLess r449.1 x348 || decide (r449.1 = x348)) (!r489.1) r489.2.fS r489.2.fAt r489.2.fCells r489.2.fGreat)) (obn (vTake r449.2.2 ([58] : Str)) fun r494 => vRValue_j4 rec_vRValue x16 x349 r449 false false (!r494.1) r494.2.fS r494.2.fAt r494.2.fCells r494.2.fGreat))

def vRValue_k3  : Option (Bool × TValueReader) :=
 none

def vRValue_j1 (F : Nat) (rec_vRValue : TValueReader → Option (Bool × TValueReader)) (r1 : Bool × TValueReader) (x13 : Bool) (x14 : Str) (x15 : Int) (x16 : (List TApiCell)) (x18 : Bool) : Option (Bool × TValueReader) :=
 cnd (x13) (obn (vRScalar F (TValueReader.mk x14 x15 x16 x18)) fun r29 => some (r29.1, r29.2)) (cnd (r1.1) (chk (inA 40 (x16.length + ([(TApiCell.mk 5 0 ([] : Str) 0)] : List TApiCell).length)) <| obn (vTake (TValueReader.mk x14 x15 (x16 ++ ([(TApiCell.mk 5 0 ([] : Str) 0)] : List TApiCell)) x18) ([93] : Str)) fun r40 => cnd (r40.1) (some (true, r40.2)) (obn (lop (fun σ => vRValue_b2 rec_vRValue x16 σ.1 σ.2.1 σ.2.2.1 σ.2.2.2.1 σ.2.2.2.2) F (1, r40.2.fS, r40.2.fAt, r40.2.fCells, r40.2.fGreat)) (oute fun ν => vRValue_k2 ))) (chk (inA 40 (x16.length + ([(TApiCell.mk 6 0 ([] : Str) 0)] : List TApiCell).length)) <| obn (vTake (TValueReader.mk x14 x15 (x16 ++ ([(TApiCell.mk 6 0 ([] : Str) 0)] : List TApiCell)) x18) ([125] : Str)) fun r188 => cnd (r188.1) (some (true, r188.2)) (obn (lop (fun σ => vRValue_b3 F rec_vRValue x16 σ.1 σ.2.1 σ.2.2.1 σ.2.2.2.1 σ.2.2.2.2.1 σ.2.2.2.2.2) F (([] : Str), 1, r188.2.fS, r188.2.fAt, r188.2.fCells, r188.2.fGreat)) (oute fun ν => vRValue_k3 ))))

def vRValuem (F : Nat) (rec_vRValue : TValueReader → Option (Bool × TValueReader)) (q : TValueReader) : Option (Bool × TValueReader) :=
 obn (vTake q ([91] : Str)) fun r1 => cnd (!r1.1) (obn (vTake r1.2 ([123] : Str)) fun r21 => vRValue_j1 F rec_vRValue r1 (!r21.1) r21.2.fS r21.2.fAt r21.2.fCells r21.2.fGreat) (vRValue_j1 F rec_vRValue r1 false r1.2.fS r1.2.fAt r1.2.fCells r1.2.fGreat)

def vRValue : Nat → TValueReader → Option (Bool × TValueReader)
 | 0, _ => none
 | nn + 1, q => vRValuem nn (vRValue nn) q

def vDecode_j1 (F : Nat) (x12 : Bool) (x13 : Str) (x14 : Int) (x15 : (List TApiCell)) (x17 : Bool) : Option ((List TApiCell) × Int) :=
 cnd (x12) (some (([] : List TApiCell), 1)) (cnd (x17) (some (([] : List TApiCell), 2)) (obn (vChecked F x15) fun r32 => some (r32.1, r32.2)))

def vDecode (F : Nat) (s : Str) : Option ((List TApiCell) × Int) :=
 cnd (decide (4000 < (s.length : Int))) (some (([] : List TApiCell), 3)) (obn (vRValue F (TValueReader.mk s 0 ([] : List TApiCell) false)) fun r18 => cnd (!r18.1) (vDecode_j1 F true r18.2.fS r18.2.fAt r18.2.fCells r18.2.fGreat) (vDecode_j1 F (!decide (r18.2.fAt = (s.length : Int))) r18.2.fS r18.2.fAt r18.2.fCells r18.2.fGreat))

end Go.Proofs.YtpmiamphppcfeaaDoor
