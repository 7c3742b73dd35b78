/-
  Texts of the proof, put together: WEa, PEb, WEb, PEc, WEc, OkEventDescends, LvA, LvB, LvC, LvD, LvE, LvF, LvG, LvH, LvI, LvJ, LvK, LvL, LvM, LvN, LvO, LvP, LrA, LdA, LdB, LdC, LdD, LdE, LdF, LdG, LdH, LdI, LdJ, LdK, LtA, LrB, LtB, LtD, LeA, LeB, LeC, LwEvDescends.
-/
import Derived.Test.YtpmiamphppcfeaaDoorEN4
import GoSem.ClaimData
/-
  Walks, printed by a small program of ours (gq.py).
-/
namespace Go.Proofs.YtpmiamphppcfeaaDoor.Q
open Go Go.RowKit
set_option linter.unusedVariables false
set_option linter.unusedSimpArgs false
set_option maxRecDepth 100000
set_option maxHeartbeats 4000000
@[reducible] def eTApiEvent (x : TApiEvent) : List Rp := [rS x.fID, rS x.fTenant, rS x.fSource, rS x.fKey, rI .i64 x.fAt, rS x.fCause, rSl 4 (List.map eTApiCell x.fBody)]
theorem built24 (parts : List (Nat × Value)) : Tryd.prog.built 24 parts = Instr.fill (fun i => (#[(0, 1), (1, 1), (2, 1), (3, 1), (4, 1), (5, 1), (6, 1)] : Array (Nat × Nat))[i]?) #[(.string ⟨#[]⟩), (.string ⟨#[]⟩), (.string ⟨#[]⟩), (.string ⟨#[]⟩), (.int .i64 0), (.string ⟨#[]⟩), ((.slice none 0 0))] parts := by kernel_rfl
theorem o_build24_ {n : Nat} {c : Cx} {l : Fr} {H : List Ent} {d : Option Nat} {ty : TypeId} {pos : String} {af : Array Edge} {g : Option (Nat × Bool)} : ORun Tryd.prog n c l H { dst := d, op := .build 24 #[], type := ty, pos := pos, after := af, guard := g } (rAgg [rS ([] : Str), rS ([] : Str), rS ([] : Str), rS ([] : Str), rI .i64 0, rS ([] : Str), rv (.slice none 0 0)]) := fun a w Z ha _ => by
  have hb : Tryd.prog.built 24 [] = some #[(.string ⟨#[]⟩), (.string ⟨#[]⟩), (.string ⟨#[]⟩), (.string ⟨#[]⟩), (.int .i64 0), (.string ⟨#[]⟩), ((.slice none 0 0))] := by
    rw [built24]
    simp [Instr.fill, Value.cells]
  refine ⟨.agg #[(.string ⟨#[]⟩), (.string ⟨#[]⟩), (.string ⟨#[]⟩), (.string ⟨#[]⟩), (.int .i64 0), (.string ⟨#[]⟩), ((.slice none 0 0))], ⟨[(.string ⟨#[]⟩), (.string ⟨#[]⟩), (.string ⟨#[]⟩), (.string ⟨#[]⟩), (.int .i64 0), (.string ⟨#[]⟩), ((.slice none 0 0))], rfl, rfl, rfl, rfl, rfl, rfl, rfl, rfl, trivial⟩, ?_⟩
  have := run_build w 24 #[] _ (by simpa using hb)
  simp [execOp, this]
theorem o_build24_0_1_2_3_4_5_6 {n : Nat} {c : Cx} {l : Fr} {H : List Ent} {d : Option Nat} {ty : TypeId} {pos : String} {af : Array Edge} {g : Option (Nat × Bool)} {x0 : Operand} {r0 : Rp} (h0 : ev l x0 = some r0) (u0 : r0.one = true) {x1 : Operand} {r1 : Rp} (h1 : ev l x1 = some r1) (u1 : r1.one = true) {x2 : Operand} {r2 : Rp} (h2 : ev l x2 = some r2) (u2 : r2.one = true) {x3 : Operand} {r3 : Rp} (h3 : ev l x3 = some r3) (u3 : r3.one = true) {x4 : Operand} {r4 : Rp} (h4 : ev l x4 = some r4) (u4 : r4.one = true) {x5 : Operand} {r5 : Rp} (h5 : ev l x5 = some r5) (u5 : r5.one = true) {x6 : Operand} {r6 : Rp} (h6 : ev l x6 = some r6) (u6 : r6.one = true) : ORun Tryd.prog n c l H { dst := d, op := .build 24 #[(0, x0), (1, x1), (2, x2), (3, x3), (4, x4), (5, x5), (6, x6)], type := ty, pos := pos, after := af, guard := g } (rAgg [r0, r1, r2, r3, r4, r5, r6]) := fun a w Z ha _ => by
  have p0 := ha.ev h0
  have c0 := cells_one (r0.hone u0 Z _ p0)
  have p1 := ha.ev h1
  have c1 := cells_one (r1.hone u1 Z _ p1)
  have p2 := ha.ev h2
  have c2 := cells_one (r2.hone u2 Z _ p2)
  have p3 := ha.ev h3
  have c3 := cells_one (r3.hone u3 Z _ p3)
  have p4 := ha.ev h4
  have c4 := cells_one (r4.hone u4 Z _ p4)
  have p5 := ha.ev h5
  have c5 := cells_one (r5.hone u5 Z _ p5)
  have p6 := ha.ev h6
  have c6 := cells_one (r6.hone u6 Z _ p6)
  have hb : Tryd.prog.built 24 [(0, a.eval x0), (1, a.eval x1), (2, a.eval x2), (3, a.eval x3), (4, a.eval x4), (5, a.eval x5), (6, a.eval x6)] = some #[a.eval x0, a.eval x1, a.eval x2, a.eval x3, a.eval x4, a.eval x5, a.eval x6] := by
    rw [built24]
    generalize a.eval x0 = v0 at *
    generalize a.eval x1 = v1 at *
    generalize a.eval x2 = v2 at *
    generalize a.eval x3 = v3 at *
    generalize a.eval x4 = v4 at *
    generalize a.eval x5 = v5 at *
    generalize a.eval x6 = v6 at *
    simp [Instr.fill, c0, c1, c2, c3, c4, c5, c6]
  refine ⟨.agg #[a.eval x0, a.eval x1, a.eval x2, a.eval x3, a.eval x4, a.eval x5, a.eval x6], ⟨[a.eval x0, a.eval x1, a.eval x2, a.eval x3, a.eval x4, a.eval x5, a.eval x6], rfl, p0, p1, p2, p3, p4, p5, p6, trivial⟩, ?_⟩
  have := run_build w 24 #[(0, a.eval x0), (1, a.eval x1), (2, a.eval x2), (3, a.eval x3), (4, a.eval x4), (5, a.eval x5), (6, a.eval x6)] _ (by simpa using hb)
  simp [execOp, this]
theorem cloneN_w (ys : (List TApiCell)) (r : (List TApiCell)) (h : cloneN ys = some r) : Fn Tryd.prog GE 26 [rSl 4 (List.map eTApiCell ys)] [] (fun R H => R = rSl 4 (List.map eTApiCell r) ∧ H = []) := by
 refine enter (n := 8) Tryd.func26 rfl Tryd.ntmps26 rfl (fun w Z => ?_)
 refine wc_as (l' := [(0, rSl 4 (List.map eTApiCell ys))]) (H' := []) rfl rfl ?_
 unfold cloneN at h
 refine wc_sr (wv (r := rv (.slice none 0 0)) (o_assign rfl) (wl_x (wc_seq (wc_sr (wm rfl (wv (o_slnil_z Tryd.underlying22 rfl) (wl_x (wc_condx rfl (fun c1 => ?_) (fun c1 => ?_)))))))))
 ·have e2 : ys = [] := List.map_eq_nil_iff.1 (c1 rfl)
  have h3 : some ([] : List TApiCell) = some r := by rw [e2] at h; exact (chk_e h).2
  refine wc_sr (wv (r := rv (.slice none 0 0)) (o_assign rfl) (wl_x (wc_ret (wk_then_ret (WK.up (d := 2) (r := rSl 4 (List.map eTApiCell ([] : List TApiCell))) rfl (Up.le (Rle.nil _)) ?_)))))
  obtain rfl := some_e h3
  exact wk_ret (r_1 Tryd.results26 (rv_t rfl)) sN ⟨rfl, rfl⟩
 ·refine wc_skip (wk_x (wc_sr (w_buildSlice (ys := ([] : List TApiCell)) (enc := eTApiCell) (css := []) (xs := []) Tryd.underlying22 Tryd.sizeOf54 Tryd.zeroValue54 rfl rfl rfl trivial rfl eTApiCell_len rfl rfl rfl (fun b4 => ?_))))
  refine wm rfl ?_
  obtain ⟨g6, h7⟩ := chk_e h
  obtain ⟨inf, hinf⟩ := info54
  refine w_append (xs := ([] : List TApiCell)) (ys := ys) (enc := eTApiCell) (i := 0) Tryd.underlying22 hinf.1 hinf.2.1 hinf.2.2.1 hinf.2.2.2 rfl rfl rfl rfl rfl (Src.z rfl rfl) eTApiCell_len eTApiCell_one g6 rfl (fun v5 => ?_)
  refine wa rfl (wl_x (wc_ret (WK.freeze (i := 0) rfl (WK.up (d := 2) (r := rSl 4 (List.map eTApiCell (([] : List TApiCell) ++ ys))) rfl (Up.fact (i := 0) rfl) ?_))))
  obtain rfl := some_e h7
  exact wk_ret (r_1 Tryd.results26 (rv_t rfl)) (sS sN) ⟨rfl, rfl⟩

theorem eCheck_w (F : Nat) (e : TApiEvent) (r : Int) (h : eCheck F e = some r) : Fn Tryd.prog GE 10 [rAgg (eTApiEvent e)] [] (fun R H => R = rI .i64 r ∧ H = []) := by
 refine enter (n := 52) Tryd.func10 rfl Tryd.ntmps10 rfl (fun w Z => ?_)
 refine wc_as (l' := [(0, rAgg (eTApiEvent e))]) (H' := []) rfl rfl ?_
 unfold eCheck at h
 refine wc_sr (w_box_agg rfl rfl (fun b1 => ?_))
 refine wv (r := rI .i64 0) (o_assign rfl) (wl_x (wc_seq (wc_seq_mid [(1, rv (.pointer (some ⟨b1, 0, none⟩))), (40, rB ((!(idS e.fID)) || ((!(idS e.fTenant)) || ((!(idS e.fSource)) || (bif !decide (e.fKey = ([] : Str)) then ((!(idS e.fKey)) || ((!decide (e.fCause = ([] : Str))) && (!(idS e.fCause)))) else ((!decide (e.fCause = ([] : Str))) && (!(idS e.fCause))))))))] [.blk b1 (eTApiEvent e) 24] ?_ ?_)))
 ·refine wc_region (wv (o_fieldAddr Tryd.underlying24 rfl Tryd.sizeOf9 rfl rfl) (wv (o_load (i := 0) Tryd.isAgg9 rfl rfl rfl) (w_call0 (rs := [rS e.fID]) (r := rB (idS e.fID)) Tryd.call23 rfl (id_q e.fID) rfl rfl (wv (o_not rfl) (wm rfl (bsplit (!(idS e.fID)) (fun c2 => ?_) (fun c2 => ?_)))))))
  ·refine wf c2 (wf c2 (wf c2 (wf c2 (wv (r := rB true) (o_pick_t (b := !(idS e.fID)) rfl c2 rfl) (wm rfl (wl_off (b := true) rfl rfl rfl rfl (wl_off (b := true) rfl rfl rfl rfl (wl_off (b := true) rfl rfl rfl rfl (wl_off (b := true) rfl rfl rfl rfl (wv (r := rB true) (o_pick_t (b := true) rfl rfl rfl) (wm rfl (wl_off (b := true) rfl rfl rfl rfl (wl_off (b := true) rfl rfl rfl rfl (wl_off (b := true) rfl rfl rfl rfl (wl_off (b := true) rfl rfl rfl rfl (wu (wu (wu (wu (wl_off (b := true) rfl rfl rfl rfl (wv (r := rB true) (o_pick_t (b := true) rfl rfl rfl) (wm rfl (wl_off (b := true) rfl rfl rfl rfl ?_)))))))))))))))))))))))
   refine wl_off (b := true) rfl rfl rfl rfl (wl_off (b := true) rfl rfl rfl rfl (wl_off (b := true) rfl rfl rfl rfl (wu (wu (wu (wu (wl_off (b := true) rfl rfl rfl rfl (wv (r := rB true) (o_pick_t (b := true) rfl rfl rfl) (wl_nil ?_)))))))))
   exact wtc c2
  ·refine wo c2 (wv (o_fieldAddr Tryd.underlying24 rfl Tryd.sizeOf9 rfl rfl) (wo c2 (wv (o_load (i := 0) Tryd.isAgg9 rfl rfl rfl) (wo c2 (w_call0 (rs := [rS e.fTenant]) (r := rB (idS e.fTenant)) Tryd.call23 rfl (id_q e.fTenant) rfl rfl (wo c2 (wv (o_not rfl) (wpf rfl c2 rfl (wm rfl (bsplit (!(idS e.fTenant)) (fun c3 => ?_) (fun c3 => ?_)))))))))))
   ·refine wf c3 (wf c3 (wf c3 (wf c3 (wv (r := rB true) (o_pick_t (b := !(idS e.fTenant)) rfl c3 rfl) (wm rfl (wl_off (b := true) rfl rfl rfl rfl (wl_off (b := true) rfl rfl rfl rfl (wl_off (b := true) rfl rfl rfl rfl (wl_off (b := true) rfl rfl rfl rfl (wu (wu (wu (wu (wl_off (b := true) rfl rfl rfl rfl (wv (r := rB true) (o_pick_t (b := true) rfl rfl rfl) (wm rfl (wl_off (b := true) rfl rfl rfl rfl (wl_off (b := true) rfl rfl rfl rfl (wl_off (b := true) rfl rfl rfl rfl (wl_off (b := true) rfl rfl rfl rfl (wu (wu (wu ?_)))))))))))))))))))))))
    refine wu (wl_off (b := true) rfl rfl rfl rfl (wv (r := rB true) (o_pick_t (b := true) rfl rfl rfl) (wl_nil ?_)))
    exact wtc (And.intro c2 c3)
   ·refine wo c3 (wv (o_fieldAddr Tryd.underlying24 rfl Tryd.sizeOf9 rfl rfl) (wo c3 (wv (o_load (i := 0) Tryd.isAgg9 rfl rfl rfl) (wo c3 (w_call0 (rs := [rS e.fSource]) (r := rB (idS e.fSource)) Tryd.call23 rfl (id_q e.fSource) rfl rfl (wo c3 (wv (o_not rfl) (wpf rfl c3 rfl (wm rfl (bsplit (!(idS e.fSource)) (fun c4 => ?_) (fun c4 => ?_)))))))))))
    ·refine wf c4 (wf c4 (wf c4 (wf c4 (wu (wu (wu (wu (wf c4 (wv (r := rB true) (o_pick_t (b := !(idS e.fSource)) rfl c4 rfl) (wm rfl (wl_off (b := true) rfl rfl rfl rfl (wl_off (b := true) rfl rfl rfl rfl (wl_off (b := true) rfl rfl rfl rfl (wl_off (b := true) rfl rfl rfl rfl (wu (wu (wu (wu (wl_off (b := true) rfl rfl rfl rfl (wv (r := rB true) (o_pick_t (b := true) rfl rfl rfl) (wl_nil ?_)))))))))))))))))))))
     exact wtc (And.intro c2 (And.intro c3 c4))
    ·refine wo c4 (wv (o_fieldAddr Tryd.underlying24 rfl Tryd.sizeOf9 rfl rfl) (wo c4 (wv (o_load (i := 0) Tryd.isAgg9 rfl rfl rfl) (wo c4 (wv (o_sne rfl rfl) (wo c4 (wm rfl (bsplit (!decide (e.fKey = ([] : Str))) (fun c5 => ?_) (fun c5 => ?_)))))))))
     ·refine wo c5 (wv (o_fieldAddr Tryd.underlying24 rfl Tryd.sizeOf9 rfl rfl) (wo c5 (wv (o_load (i := 0) Tryd.isAgg9 rfl rfl rfl) (wo c5 (w_call0 (rs := [rS e.fKey]) (r := rB (idS e.fKey)) Tryd.call23 rfl (id_q e.fKey) rfl rfl (wo c5 (wv (o_not rfl) (wo c4 (wpt rfl c5 rfl (wpf rfl c4 rfl (wm rfl (bsplit (!(idS e.fKey)) (fun c6 => ?_) (fun c6 => ?_)))))))))))))
      ·refine wf c6 (wf c6 (wf c6 (wf c6 (wu (wu (wu (wu (wf c6 (wv (r := rB true) (o_pick_t (b := !(idS e.fKey)) rfl c6 rfl) (wl_nil ?_))))))))))
       exact wtc (And.intro c2 (And.intro c3 (And.intro c4 (And.intro c5 c6))))
      ·refine wo c6 (wv (o_fieldAddr Tryd.underlying24 rfl Tryd.sizeOf9 rfl rfl) (wo c6 (wv (o_load (i := 0) Tryd.isAgg9 rfl rfl rfl) (wo c6 (wv (o_sne rfl rfl) (wo c6 (wm rfl (bsplit (!decide (e.fCause = ([] : Str))) (fun c7 => ?_) (fun c7 => ?_)))))))))
       ·refine wo c7 (wv (o_fieldAddr Tryd.underlying24 rfl Tryd.sizeOf9 rfl rfl) (wo c7 (wv (o_load (i := 0) Tryd.isAgg9 rfl rfl rfl) (wo c7 (w_call0 (rs := [rS e.fCause]) (r := rB (idS e.fCause)) Tryd.call23 rfl (id_q e.fCause) rfl rfl (wo c7 (wv (o_not rfl) (wo c6 (wpt rfl c7 rfl (wpf rfl c6 rfl (wl_nil ?_)))))))))))
        exact wtc (And.intro c2 (And.intro c3 (And.intro c4 (And.intro c5 (And.intro c6 c7)))))
       ·refine wf c7 (wf c7 (wf c7 (wf c7 (wo c6 (wv (r := rB false) (o_pick_f (b := !decide (e.fCause = ([] : Str))) rfl c7 rfl) (wpf rfl c6 rfl (wl_nil ?_)))))))
        exact wtc (And.intro c2 (And.intro c3 (And.intro c4 (And.intro c5 (And.intro c6 c7)))))
     ·refine wf c5 (wf c5 (wf c5 (wf c5 (wo c4 (wv (r := rB false) (o_pick_f (b := !decide (e.fKey = ([] : Str))) rfl c5 rfl) (wpf rfl c4 rfl (wm rfl (wl_on (b := false) rfl rfl rfl (wv (o_fieldAddr Tryd.underlying24 rfl Tryd.sizeOf9 rfl rfl) (wl_on (b := false) rfl rfl rfl (wv (o_load (i := 0) Tryd.isAgg9 rfl rfl rfl) (wl_on (b := false) rfl rfl rfl (wv (o_sne rfl rfl) (wl_on (b := false) rfl rfl rfl (wm rfl (bsplit (!decide (e.fCause = ([] : Str))) (fun c8 => ?_) (fun c8 => ?_)))))))))))))))))
      ·refine wo c8 (wv (o_fieldAddr Tryd.underlying24 rfl Tryd.sizeOf9 rfl rfl) (wo c8 (wv (o_load (i := 0) Tryd.isAgg9 rfl rfl rfl) (wo c8 (w_call0 (rs := [rS e.fCause]) (r := rB (idS e.fCause)) Tryd.call23 rfl (id_q e.fCause) rfl rfl (wo c8 (wv (o_not rfl) (wl_on (b := false) rfl rfl rfl (wpt rfl c8 rfl (wv (r := rB (!(idS e.fCause))) (o_pick_f (b := false) rfl rfl rfl) (wl_nil ?_)))))))))))
       exact wtc (And.intro c2 (And.intro c3 (And.intro c4 (And.intro c5 c8))))
      ·refine wf c8 (wf c8 (wf c8 (wf c8 (wl_on (b := false) rfl rfl rfl (wv (r := rB false) (o_pick_f (b := !decide (e.fCause = ([] : Str))) rfl c8 rfl) (wv (r := rB false) (o_pick_f (b := false) rfl rfl rfl) (wl_nil ?_)))))))
       exact wtc (And.intro c2 (And.intro c3 (And.intro c4 (And.intro c5 c8))))
 refine wc_cond (b := ((!(idS e.fID)) || ((!(idS e.fTenant)) || ((!(idS e.fSource)) || (bif !decide (e.fKey = ([] : Str)) then ((!(idS e.fKey)) || ((!decide (e.fCause = ([] : Str))) && (!(idS e.fCause)))) else ((!decide (e.fCause = ([] : Str))) && (!(idS e.fCause)))))))) rfl (fun c9 => ?_) (fun c9 => ?_)
 ·have h10 := cnd_t c9 h
  refine wc_sr (wv (r := rI .i64 4) (o_assign rfl) (wl_x (wc_ret (wk_then_ret ?_))))
  obtain rfl := some_e h10
  exact wk_ret (r_1 Tryd.results10 (rv_t rfl)) (sS sN) ⟨rfl, rfl⟩
 ·have h11 := cnd_f c9 h
  refine wc_skip (wk_x (wc_seq (wc_seq_mid [(1, rv (.pointer (some ⟨b1, 0, none⟩))), (48, rB ((decide (e.fAt < 0)) || (decide (1073741824 < e.fAt))))] [.blk b1 (eTApiEvent e) 24] ?_ ?_)))
  ·refine wc_region (wv (o_fieldAddr Tryd.underlying24 rfl Tryd.sizeOf3 rfl rfl) (wv (o_load (i := 0) Tryd.isAgg3 rfl rfl rfl) (wv (o_lt rfl rfl) (wm rfl (bsplit (decide (e.fAt < 0)) (fun c12 => ?_) (fun c12 => ?_))))))
   ·refine wf c12 (wf c12 (wf c12 (wv (r := rB true) (o_pick_t (b := decide (e.fAt < 0)) rfl c12 rfl) (wl_nil ?_))))
    exact wtc c12
   ·refine wo c12 (wv (o_fieldAddr Tryd.underlying24 rfl Tryd.sizeOf3 rfl rfl) (wo c12 (wv (o_load (i := 0) Tryd.isAgg3 rfl rfl rfl) (wo c12 (wv (o_gt rfl rfl) (wpf rfl c12 rfl (wl_nil ?_)))))))
    exact wtc c12
  refine wc_cond (b := ((decide (e.fAt < 0)) || (decide (1073741824 < e.fAt)))) rfl (fun c13 => ?_) (fun c13 => ?_)
  ·have h14 := cnd_t c13 h11
   refine wc_sr (wv (r := rI .i64 2) (o_assign rfl) (wl_x (wc_ret (wk_then_ret ?_))))
   obtain rfl := some_e h14
   exact wk_ret (r_1 Tryd.results10 (rv_t rfl)) (sS sN) ⟨rfl, rfl⟩
  ·have h15 := cnd_f c13 h11
   refine wc_skip (wk_x (wc_sr (wv (o_fieldAddr Tryd.underlying24 rfl Tryd.sizeOf22 rfl rfl) (wv (o_load (i := 0) Tryd.isAgg22 rfl rfl rfl) ?_))))
   obtain ⟨r16, e18, h17⟩ := obn_e h15
   refine wc0 Tryd.call24 (vCheck_w F e.fBody r16 e18) rfl (wa rfl (wl_x (wc_ret ?_)))
   obtain rfl := some_e h17
   exact wk_ret (r_1 Tryd.results10 (rv_t rfl)) (sS sN) ⟨rfl, rfl⟩

theorem eEncode_w (F : Nat) (e : TApiEvent) (r : Str × Int) (h : eEncode F e = some r) : Fn Tryd.prog GE 7 [rAgg (eTApiEvent e)] [] (fun R H => R = rTup [rS r.1, rI .i64 r.2] ∧ H = []) := by
 refine enter (n := 44) Tryd.func7 rfl Tryd.ntmps7 rfl (fun w Z => ?_)
 refine wc_as (l' := [(0, rAgg (eTApiEvent e))]) (H' := []) rfl rfl ?_
 unfold eEncode at h
 refine wc_sr (w_box_agg rfl rfl (fun b1 => ?_))
 refine wv (r := rS ([] : Str)) (o_assign rfl) (wv (r := rI .i64 0) (o_assign rfl) (wl_x (wc_seq (wc_sr (wv (o_load_agg (i := 0) Tryd.isAgg24 Tryd.sizeOf24 rfl rfl rfl rfl) ?_)))))
 obtain ⟨r2, e4, h3⟩ := obn_e h
 refine wc0 Tryd.call10 (eCheck_w F e r2 e4) rfl (wa rfl (wl_y (wm rfl (wv (o_ne rfl rfl) (wl_x (wc_cond (b := !decide (r2 = 0)) rfl (fun c5 => ?_) (fun c5 => ?_)))))))
 ·have h6 := cnd_t c5 h3
  refine wc_sr (wm rfl (wv (r := rS ([] : Str)) (o_assign rfl) (wa rfl (wl_x (wc_ret (wk_then_ret ?_))))))
  obtain rfl := some_e h6
  exact wk_ret (r_2 Tryd.results7 (rv_t rfl) (rv_t rfl)) (sS sN) ⟨rfl, rfl⟩
 ·have h7 := cnd_f c5 h3
  refine wc_skip (wk_x (wc_sr (wv (o_fieldAddr Tryd.underlying24 rfl Tryd.sizeOf22 rfl rfl) (wv (o_load (i := 0) Tryd.isAgg22 rfl rfl rfl) ?_))))
  obtain ⟨r8, e10, h9⟩ := obn_e h7
  refine wc0 Tryd.call16 (vEncode_w F e.fBody r8 e10) rfl (wm rfl (wv (o_extract rfl rfl) (wv (o_extract rfl rfl) (wa rfl (wa rfl (wl_x (wc_seq (wc_sr (wm rfl (wv (o_ne rfl rfl) (wl_x (wc_cond (b := !decide (r8.2 = 0)) rfl (fun c11 => ?_) (fun c11 => ?_)))))))))))))
  ·have h12 := cnd_t c11 h9
   refine wc_sr (wm rfl (wv (r := rS ([] : Str)) (o_assign rfl) (wa rfl (wl_x (wc_ret (wk_then_ret ?_))))))
   obtain rfl := some_e h12
   exact wk_ret (r_2 Tryd.results7 (rv_t rfl) (rv_t rfl)) (sS sN) ⟨rfl, rfl⟩
  ·have h13 := cnd_f c11 h9
   refine wc_skip (wk_x (wc_sr ?_))
   obtain ⟨inf, hinf⟩ := info9
   refine w_make (enc := eS) (zα := ([] : Str)) (m := 7) Tryd.underlying37 hinf.1 hinf.2.1 hinf.2.2.1 hinf.2.2.2 rfl rfl rfl (fun _ => rfl) rfl rfl (by decide) rfl (fun v14 => ?_)
   refine wa rfl (wl_x (wc_seq ?_))
   obtain ⟨g15, h16⟩ := chk_e h13
   refine wc_rdlk (H1 := [.row v14 9 1 (List.map eS (List.replicate 7 ([] : Str))), .blk b1 (eTApiEvent e) 24]) 16 [1, 5, 7] [⟨[], rv v14, 0⟩, ⟨[], rv (.pointer (some ⟨b1, 0, none⟩)), 0⟩, ⟨[1], rS e.fID, 1⟩, ⟨[], rv (.pointer (some ⟨b1, 1, none⟩)), 0⟩, ⟨[3], rS e.fTenant, 1⟩, ⟨[], rv (.pointer (some ⟨b1, 2, none⟩)), 0⟩, ⟨[5], rS e.fSource, 1⟩, ⟨[], rv (.pointer (some ⟨b1, 3, none⟩)), 0⟩, ⟨[7], rS e.fKey, 1⟩, ⟨[], rv (.pointer (some ⟨b1, 4, none⟩)), 0⟩, ⟨[9], rI .i64 e.fAt, 1⟩, ⟨[10], rS (Lib.itoa e.fAt), 0⟩, ⟨[], rv (.pointer (some ⟨b1, 5, none⟩)), 0⟩, ⟨[12], rS e.fCause, 1⟩, ⟨[], rS r8.1, 0⟩, ⟨[2, 4, 6, 8, 11, 13, 14], rSl 1 (List.map eS ([e.fID, e.fTenant, e.fSource, e.fKey, Lib.itoa e.fAt, e.fCause, r8.1] : List Str)), 0⟩] (rle [(17, _)]) [23, 24, 25, 26, 27, 28, 29, 30, 31, 32, 33, 34, 35, 36, 37, 38, 1, 5, 7] ?_ ?_
   ·refine oq (o_move rfl) (oq (o_fieldAddr Tryd.underlying24 rfl Tryd.sizeOf9 rfl rfl) (of (o_load (i := 1) Tryd.isAgg9 rfl rfl rfl) (oq (o_fieldAddr Tryd.underlying24 rfl Tryd.sizeOf9 rfl rfl) (of (o_load (i := 1) Tryd.isAgg9 rfl rfl rfl) (oq (o_fieldAddr Tryd.underlying24 rfl Tryd.sizeOf9 rfl rfl) (of (o_load (i := 1) Tryd.isAgg9 rfl rfl rfl) (oq (o_fieldAddr Tryd.underlying24 rfl Tryd.sizeOf9 rfl rfl) (of (o_load (i := 1) Tryd.isAgg9 rfl rfl rfl) (oq (o_fieldAddr Tryd.underlying24 rfl Tryd.sizeOf3 rfl rfl) (of (o_load (i := 1) Tryd.isAgg3 rfl rfl rfl) (obl_q rfl (fun H => ok_call0 (rs := [rI .i64 e.fAt]) (r := rS (Lib.itoa e.fAt)) Tryd.call17 rfl (format_q e.fAt g15) rfl) ?_)))))))))))
    refine oq (o_fieldAddr Tryd.underlying24 rfl Tryd.sizeOf9 rfl rfl) (of (o_load (i := 1) Tryd.isAgg9 rfl rfl rfl) (oq (o_move rfl) (obl_q rfl (fun H => ok_buildSlice (ys := ([e.fID, e.fTenant, e.fSource, e.fKey, Lib.itoa e.fAt, e.fCause, r8.1] : List Str)) (enc := eS) (css := [[rS e.fID], [rS e.fTenant], [rS e.fSource], [rS e.fKey], [rS (Lib.itoa e.fAt)], [rS e.fCause], [rS r8.1]]) (xs := [.tmp 25, .tmp 27, .tmp 29, .tmp 31, .tmp 34, .tmp 36, .tmp 37]) Tryd.underlying37 Tryd.sizeOf9 Tryd.zeroValue9 rfl rfl rfl ⟨Cel.one rfl (Up.refl _), Cel.one rfl (Up.refl _), Cel.one rfl (Up.refl _), Cel.one rfl (Up.refl _), Cel.one rfl (Up.refl _), Cel.one rfl (Up.refl _), Cel.one rfl (Up.refl _), trivial⟩ rfl eS_len rfl rfl) ?_)))
    exact obl_e
   refine w_copy (xs := List.replicate 7 ([] : Str)) (ys := ([e.fID, e.fTenant, e.fSource, e.fKey, Lib.itoa e.fAt, e.fCause, r8.1] : List Str)) (enc := eS) (i := 0) Tryd.underlying37 (by obtain ⟨inf, hinf⟩ := info9; simp [hinf.1, hinf.2.2.1]) rfl rfl (Src.z rfl rfl) eS_len eS_one rfl (wl_asH (H' := [.row v14 9 1 (List.map eS (cpy (List.replicate 7 ([] : Str)) ([e.fID, e.fTenant, e.fSource, e.fKey, Lib.itoa e.fAt, e.fCause, r8.1] : List Str))), .blk b1 (eTApiEvent e) 24]) rfl (wl_y (wm rfl (WL.freeze (i := 0) rfl (WL.up (d := 40) (r := rSl 1 (List.map eS (cpy (List.replicate 7 ([] : Str)) ([e.fID, e.fTenant, e.fSource, e.fKey, Lib.itoa e.fAt, e.fCause, r8.1] : List Str)))) rfl (Up.fact (i := 0) rfl) ?_)))))
   obtain ⟨r17, e19, h18⟩ := obn_e h16
   refine wc0 Tryd.call18 (fPack_w F (cpy (List.replicate 7 ([] : Str)) ([e.fID, e.fTenant, e.fSource, e.fKey, Lib.itoa e.fAt, e.fCause, r8.1] : List Str)) r17 e19) rfl (wv (o_extract rfl rfl) (wv (o_extract rfl rfl) (wa rfl (wa rfl (wl_x (wc_ret ?_))))))
   obtain rfl := some_e h18
   exact wk_ret (r_2 Tryd.results7 (rv_t rfl) (rv_t rfl)) (sS (sS sN)) ⟨rfl, rfl⟩

theorem eDecode_w (F : Nat) (s : Str) (r : TApiEvent × Int) (h : eDecode F s = some r) : Fn Tryd.prog GE 8 [rS s] [] (fun R H => R = rTup [rAgg (eTApiEvent r.1), rI .i64 r.2] ∧ H = []) := by
 refine enter (n := 70) Tryd.func8 rfl Tryd.ntmps8 rfl (fun w Z => ?_)
 refine wc_as (l' := [(0, rS s)]) (H' := []) rfl rfl ?_
 unfold eDecode at h
 refine wc_sr (w_alloc (cs := [rS ([] : Str), rS ([] : Str), rS ([] : Str), rS ([] : Str), rI .i64 0, rS ([] : Str), rv (.slice none 0 0)]) Tryd.zeroValue24 rfl rfl (fun b1 => ?_))
 refine wv (r := rI .i64 0) (o_assign rfl) (wl_y (wm rfl ?_))
 obtain ⟨r2, e4, h3⟩ := obn_e h
 refine wc0 Tryd.call19 (fUnpack_w F s r2 e4) rfl (wm rfl (wv (o_extract rfl rfl) (wv (o_extract rfl rfl) (wa rfl (wa rfl (wl_x (wc_seq (wc_sr (wm rfl (wv (o_ne rfl rfl) (wl_x (wc_cond (b := !decide (r2.2 = 0)) rfl (fun c5 => ?_) (fun c5 => ?_)))))))))))))
 ·have h6 := cnd_t c5 h3
  refine wc_sr (wv (r := rAgg [rS ([] : Str), rS ([] : Str), rS ([] : Str), rS ([] : Str), rI .i64 0, rS ([] : Str), rv (.slice none 0 0)]) (o_build24_ ) (wm rfl (u_store_agg (i := 0) Tryd.sizeOf24 rfl rfl rfl (OneAll.c rfl) rfl rfl (cs' := [rS ([] : Str), rS ([] : Str), rS ([] : Str), rS ([] : Str), rI .i64 0, rS ([] : Str), rv (.slice none 0 0)]) rfl (H' := [.blk b1 [rS ([] : Str), rS ([] : Str), rS ([] : Str), rS ([] : Str), rI .i64 0, rS ([] : Str), rv (.slice none 0 0)] 24]) rfl (wa rfl (wl_x (wc_ret (wk_then_ret (WK.upBlk (i := 0) (cs' := [rS ([] : Str), rS ([] : Str), rS ([] : Str), rS ([] : Str), rI .i64 0, rS ([] : Str), rSl 4 (List.map eTApiCell ([] : List TApiCell))]) rfl ⟨Up.refl _, Up.refl _, Up.refl _, Up.refl _, Up.refl _, Up.refl _, Up.le (Rle.nil _), trivial⟩ ?_))))))))
  obtain rfl := some_e h6
  exact wk_ret (r_2 Tryd.results8 (rv_ca (i := 0) Tryd.isAgg24 Tryd.sizeOf24 rfl rfl rfl) (rv_t rfl)) (sS sN) ⟨rfl, rfl⟩
 ·have h7 := cnd_f c5 h3
  refine wc_skip (wk_x (wc_seq (wc_sr (wm rfl (wv (o_len_zt (ys := r2.1) (enc := eS) Tryd.underlying37 rfl) (wv (o_ne rfl rfl) (wl_x (wc_cond (b := !decide ((r2.1.length : Int) = 7)) rfl (fun c8 => ?_) (fun c8 => ?_)))))))))
  ·have h9 := cnd_t c8 h7
   refine wc_sr (wv (r := rAgg [rS ([] : Str), rS ([] : Str), rS ([] : Str), rS ([] : Str), rI .i64 0, rS ([] : Str), rv (.slice none 0 0)]) (o_build24_ ) (u_store_agg (i := 0) Tryd.sizeOf24 rfl rfl rfl (OneAll.c rfl) rfl rfl (cs' := [rS ([] : Str), rS ([] : Str), rS ([] : Str), rS ([] : Str), rI .i64 0, rS ([] : Str), rv (.slice none 0 0)]) rfl (H' := [.blk b1 [rS ([] : Str), rS ([] : Str), rS ([] : Str), rS ([] : Str), rI .i64 0, rS ([] : Str), rv (.slice none 0 0)] 24]) rfl (wv (r := rI .i64 13) (o_assign rfl) (wl_x (wc_ret (wk_then_ret (WK.upBlk (i := 0) (cs' := [rS ([] : Str), rS ([] : Str), rS ([] : Str), rS ([] : Str), rI .i64 0, rS ([] : Str), rSl 4 (List.map eTApiCell ([] : List TApiCell))]) rfl ⟨Up.refl _, Up.refl _, Up.refl _, Up.refl _, Up.refl _, Up.refl _, Up.le (Rle.nil _), trivial⟩ ?_)))))))
   obtain rfl := some_e h9
   exact wk_ret (r_2 Tryd.results8 (rv_ca (i := 0) Tryd.isAgg24 Tryd.sizeOf24 rfl rfl rfl) (rv_t rfl)) (sS sN) ⟨rfl, rfl⟩
  ·have h10 := cnd_f c8 h7
   refine wc_skip (wk_x (wc_sr (wm rfl ?_)))
   obtain ⟨g11, h12⟩ := chk_e h10
   refine wv (o_ix_z (enc := eS) (ys := r2.1) Tryd.underlying37 Tryd.sizeOf9 rfl rfl g11) (wv (o_load_z Tryd.isAgg9 rfl rfl) ?_)
   obtain ⟨g13, h14⟩ := chk_e h12
   refine w_call0 (rs := [rS (at' r2.1 4)]) (r := rTup [rI .i64 (parseV (at' r2.1 4)), rI .i64 (parseE (at' r2.1 4))]) Tryd.call20 rfl (parse_q (at' r2.1 4) g13) rfl rfl (wm rfl (wv (o_extract rfl rfl) (wv (o_extract rfl rfl) (wa rfl (wa rfl (wl_x (wc_seq (wc_sr (wm rfl (wv (o_ne rfl rfl) (wl_x (wc_cond (b := !decide ((parseE (at' r2.1 4)) = 0)) rfl (fun c15 => ?_) (fun c15 => ?_)))))))))))))
   ·have h16 := cnd_t c15 h14
    refine wc_sr (wv (r := rAgg [rS ([] : Str), rS ([] : Str), rS ([] : Str), rS ([] : Str), rI .i64 0, rS ([] : Str), rv (.slice none 0 0)]) (o_build24_ ) (wm rfl (u_store_agg (i := 0) Tryd.sizeOf24 rfl rfl rfl (OneAll.c rfl) rfl rfl (cs' := [rS ([] : Str), rS ([] : Str), rS ([] : Str), rS ([] : Str), rI .i64 0, rS ([] : Str), rv (.slice none 0 0)]) rfl (H' := [.blk b1 [rS ([] : Str), rS ([] : Str), rS ([] : Str), rS ([] : Str), rI .i64 0, rS ([] : Str), rv (.slice none 0 0)] 24]) rfl (wa rfl (wl_x (wc_ret (wk_then_ret (WK.upBlk (i := 0) (cs' := [rS ([] : Str), rS ([] : Str), rS ([] : Str), rS ([] : Str), rI .i64 0, rS ([] : Str), rSl 4 (List.map eTApiCell ([] : List TApiCell))]) rfl ⟨Up.refl _, Up.refl _, Up.refl _, Up.refl _, Up.refl _, Up.refl _, Up.le (Rle.nil _), trivial⟩ ?_))))))))
    obtain rfl := some_e h16
    exact wk_ret (r_2 Tryd.results8 (rv_ca (i := 0) Tryd.isAgg24 Tryd.sizeOf24 rfl rfl rfl) (rv_t rfl)) (sS sN) ⟨rfl, rfl⟩
   ·have h17 := cnd_f c15 h14
    refine wc_skip (wk_x (wc_sr (wm rfl ?_)))
    obtain ⟨g18, h19⟩ := chk_e h17
    refine wv (o_ix_z (enc := eS) (ys := r2.1) Tryd.underlying37 Tryd.sizeOf9 rfl rfl g18) (wv (o_load_z Tryd.isAgg9 rfl rfl) ?_)
    obtain ⟨r20, e22, h21⟩ := obn_e h19
    refine wc0 Tryd.call21 (vDecode_w F (at' r2.1 6) r20 e22) rfl (wm rfl (wv (o_extract rfl rfl) (wv (o_extract rfl rfl) (wa rfl (wa rfl (wl_x (wc_seq (wc_sr (wm rfl (wv (o_ne rfl rfl) (wl_x (wc_cond (b := !decide (r20.2 = 0)) rfl (fun c23 => ?_) (fun c23 => ?_)))))))))))))
    ·have h24 := cnd_t c23 h21
     refine wc_sr (wv (r := rAgg [rS ([] : Str), rS ([] : Str), rS ([] : Str), rS ([] : Str), rI .i64 0, rS ([] : Str), rv (.slice none 0 0)]) (o_build24_ ) (wm rfl (u_store_agg (i := 0) Tryd.sizeOf24 rfl rfl rfl (OneAll.c rfl) rfl rfl (cs' := [rS ([] : Str), rS ([] : Str), rS ([] : Str), rS ([] : Str), rI .i64 0, rS ([] : Str), rv (.slice none 0 0)]) rfl (H' := [.blk b1 [rS ([] : Str), rS ([] : Str), rS ([] : Str), rS ([] : Str), rI .i64 0, rS ([] : Str), rv (.slice none 0 0)] 24]) rfl (wa rfl (wl_x (wc_ret (wk_then_ret (WK.upBlk (i := 0) (cs' := [rS ([] : Str), rS ([] : Str), rS ([] : Str), rS ([] : Str), rI .i64 0, rS ([] : Str), rSl 4 (List.map eTApiCell ([] : List TApiCell))]) rfl ⟨Up.refl _, Up.refl _, Up.refl _, Up.refl _, Up.refl _, Up.refl _, Up.le (Rle.nil _), trivial⟩ ?_))))))))
     obtain rfl := some_e h24
     exact wk_ret (r_2 Tryd.results8 (rv_ca (i := 0) Tryd.isAgg24 Tryd.sizeOf24 rfl rfl rfl) (rv_t rfl)) (sS sN) ⟨rfl, rfl⟩
    ·have h25 := cnd_f c23 h21
     refine wc_skip (wk_x (wc_seq ?_))
     obtain ⟨g26, h27⟩ := chk_e h25
     obtain ⟨g28, h29⟩ := chk_e h27
     obtain ⟨g30, h31⟩ := chk_e h29
     obtain ⟨g32, h33⟩ := chk_e h31
     obtain ⟨g34, h35⟩ := chk_e h33
     refine wc_rdak 19 [2, 4, 6, 7] [⟨[], rSl 1 (List.map eS r2.1), none, none, none⟩, ⟨[0], rAt [rS (at' r2.1 0)], none, none, none⟩, ⟨[1], rS (at' r2.1 0), none, none, none⟩, ⟨[], rSl 1 (List.map eS r2.1), none, none, none⟩, ⟨[3], rAt [rS (at' r2.1 1)], none, none, none⟩, ⟨[4], rS (at' r2.1 1), none, none, none⟩, ⟨[], rSl 1 (List.map eS r2.1), none, none, none⟩, ⟨[6], rAt [rS (at' r2.1 2)], none, none, none⟩, ⟨[7], rS (at' r2.1 2), none, none, none⟩, ⟨[], rSl 1 (List.map eS r2.1), none, none, none⟩, ⟨[9], rAt [rS (at' r2.1 3)], none, none, none⟩, ⟨[10], rS (at' r2.1 3), none, none, none⟩, ⟨[], rI .i64 (parseV (at' r2.1 4)), none, none, none⟩, ⟨[], rSl 1 (List.map eS r2.1), none, none, none⟩, ⟨[13], rAt [rS (at' r2.1 5)], none, none, none⟩, ⟨[14], rS (at' r2.1 5), none, none, none⟩, ⟨[], rSl 4 (List.map eTApiCell r20.1), none, none, none⟩, ⟨[2, 5, 8, 11, 12, 15, 16], rAgg [rS (at' r2.1 0), rS (at' r2.1 1), rS (at' r2.1 2), rS (at' r2.1 3), rI .i64 (parseV (at' r2.1 4)), rS (at' r2.1 5), rSl 4 (List.map eTApiCell r20.1)], none, none, none⟩, ⟨[], rv undef, some ([rS ([] : Str), rS ([] : Str), rS ([] : Str), rS ([] : Str), rI .i64 0, rS ([] : Str), rv (.slice none 0 0)], 24), none, none⟩] ?_ (fun β => ?_)
     ·refine oaq (o_move rfl) (oaq (o_ix_z (enc := eS) (ys := r2.1) Tryd.underlying37 Tryd.sizeOf9 rfl rfl g26) (oaq (o_load_z Tryd.isAgg9 rfl rfl) (oaq (o_move rfl) (oaq (o_ix_z (enc := eS) (ys := r2.1) Tryd.underlying37 Tryd.sizeOf9 rfl rfl g28) (oaq (o_load_z Tryd.isAgg9 rfl rfl) (oaq (o_move rfl) (oaq (o_ix_z (enc := eS) (ys := r2.1) Tryd.underlying37 Tryd.sizeOf9 rfl rfl g30) (oaq (o_load_z Tryd.isAgg9 rfl rfl) (oaq (o_move rfl) (oaq (o_ix_z (enc := eS) (ys := r2.1) Tryd.underlying37 Tryd.sizeOf9 rfl rfl g32) (oaq (o_load_z Tryd.isAgg9 rfl rfl) (oaq (o_move rfl) (oaq (o_move rfl) (oaq (o_ix_z (enc := eS) (ys := r2.1) Tryd.underlying37 Tryd.sizeOf9 rfl rfl g34) (oaq (o_load_z Tryd.isAgg9 rfl rfl) (oaq (o_move rfl) (oaq (o_build24_0_1_2_3_4_5_6 rfl rfl rfl rfl rfl rfl rfl rfl rfl rfl rfl rfl rfl rfl) (oal (al_ok (cs := [rS ([] : Str), rS ([] : Str), rS ([] : Str), rS ([] : Str), rI .i64 0, rS ([] : Str), rv (.slice none 0 0)]) Tryd.zeroValue24 rfl) ?_))))))))))))))))))
      exact oae
     refine wl_kza (H1 := [.blk b1 [rS ([] : Str), rS ([] : Str), rS ([] : Str), rS ([] : Str), rI .i64 0, rS ([] : Str), rv (.slice none 0 0)] 24, .blk (β 18) [rS ([] : Str), rS ([] : Str), rS ([] : Str), rS ([] : Str), rI .i64 0, rS ([] : Str), rv (.slice none 0 0)] 24]) [45, 46, 47, 48, 49, 50, 51, 52, 53, 54, 55, 56, 57, 58, 59, 60, 61, 62, 8, 2, 4, 6, 7] ?_
     generalize β 18 = b36
     refine u_store_agg (i := 1) Tryd.sizeOf24 rfl rfl rfl (OneAll.c rfl) rfl rfl (cs' := [rS (at' r2.1 0), rS (at' r2.1 1), rS (at' r2.1 2), rS (at' r2.1 3), rI .i64 (parseV (at' r2.1 4)), rS (at' r2.1 5), rSl 4 (List.map eTApiCell r20.1)]) rfl (H' := [.blk b1 [rS ([] : Str), rS ([] : Str), rS ([] : Str), rS ([] : Str), rI .i64 0, rS ([] : Str), rv (.slice none 0 0)] 24, .blk b36 [rS (at' r2.1 0), rS (at' r2.1 1), rS (at' r2.1 2), rS (at' r2.1 3), rI .i64 (parseV (at' r2.1 4)), rS (at' r2.1 5), rSl 4 (List.map eTApiCell r20.1)] 24]) rfl (wl_x (wc_seq (wc_sr (wv (o_load_agg (i := 1) Tryd.isAgg24 Tryd.sizeOf24 rfl rfl rfl rfl) ?_))))
     obtain ⟨r37, e39, h38⟩ := obn_e h35
     refine wc0 Tryd.call10 (eCheck_w F (TApiEvent.mk (at' r2.1 0) (at' r2.1 1) (at' r2.1 2) (at' r2.1 3) (parseV (at' r2.1 4)) (at' r2.1 5) r20.1) r37 e39) rfl (wa rfl (wl_y (wm rfl (wv (o_ne rfl rfl) (wl_x (wc_cond (b := !decide (r37 = 0)) rfl (fun c40 => ?_) (fun c40 => ?_)))))))
     ·have h41 := cnd_t c40 h38
      refine wc_sr (wv (r := rAgg [rS ([] : Str), rS ([] : Str), rS ([] : Str), rS ([] : Str), rI .i64 0, rS ([] : Str), rv (.slice none 0 0)]) (o_build24_ ) (wm rfl (u_store_agg (i := 0) Tryd.sizeOf24 rfl rfl rfl (OneAll.c rfl) rfl rfl (cs' := [rS ([] : Str), rS ([] : Str), rS ([] : Str), rS ([] : Str), rI .i64 0, rS ([] : Str), rv (.slice none 0 0)]) rfl (H' := [.blk b1 [rS ([] : Str), rS ([] : Str), rS ([] : Str), rS ([] : Str), rI .i64 0, rS ([] : Str), rv (.slice none 0 0)] 24, .blk b36 [rS (at' r2.1 0), rS (at' r2.1 1), rS (at' r2.1 2), rS (at' r2.1 3), rI .i64 (parseV (at' r2.1 4)), rS (at' r2.1 5), rSl 4 (List.map eTApiCell r20.1)] 24]) rfl (wa rfl (wl_x (wc_ret (wk_then_ret (WK.upBlk (i := 0) (cs' := [rS ([] : Str), rS ([] : Str), rS ([] : Str), rS ([] : Str), rI .i64 0, rS ([] : Str), rSl 4 (List.map eTApiCell ([] : List TApiCell))]) rfl ⟨Up.refl _, Up.refl _, Up.refl _, Up.refl _, Up.refl _, Up.refl _, Up.le (Rle.nil _), trivial⟩ ?_))))))))
      obtain rfl := some_e h41
      exact wk_ret (r_2 Tryd.results8 (rv_ca (i := 0) Tryd.isAgg24 Tryd.sizeOf24 rfl rfl rfl) (rv_t rfl)) (sS (sS sN)) ⟨rfl, rfl⟩
     ·have h42 := cnd_f c40 h38
      refine wc_skip (wk_x (wc_sr (wv (o_load_agg (i := 1) Tryd.isAgg24 Tryd.sizeOf24 rfl rfl rfl rfl) (u_store_agg (i := 0) Tryd.sizeOf24 rfl rfl rfl (OneAll.c rfl) rfl rfl (cs' := [rS (at' r2.1 0), rS (at' r2.1 1), rS (at' r2.1 2), rS (at' r2.1 3), rI .i64 (parseV (at' r2.1 4)), rS (at' r2.1 5), rSl 4 (List.map eTApiCell r20.1)]) rfl (H' := [.blk b1 [rS (at' r2.1 0), rS (at' r2.1 1), rS (at' r2.1 2), rS (at' r2.1 3), rI .i64 (parseV (at' r2.1 4)), rS (at' r2.1 5), rSl 4 (List.map eTApiCell r20.1)] 24, .blk b36 [rS (at' r2.1 0), rS (at' r2.1 1), rS (at' r2.1 2), rS (at' r2.1 3), rI .i64 (parseV (at' r2.1 4)), rS (at' r2.1 5), rSl 4 (List.map eTApiCell r20.1)] 24]) rfl (wv (r := rI .i64 0) (o_assign rfl) (wl_x (wc_ret ?_)))))))
      obtain rfl := some_e h42
      exact wk_ret (r_2 Tryd.results8 (rv_ca (i := 0) Tryd.isAgg24 Tryd.sizeOf24 rfl rfl rfl) (rv_t rfl)) (sS (sS sN)) ⟨rfl, rfl⟩

theorem eSame_w (F : Nat) (a : TApiEvent) (b : TApiEvent) (r : Bool) (h : eSame F a b = some r) : Fn Tryd.prog GE 9 [rAgg (eTApiEvent a), rAgg (eTApiEvent b)] [] (fun R H => R = rB r ∧ H = []) := by
 refine enter (n := 52) Tryd.func9 rfl Tryd.ntmps9 rfl (fun w Z => ?_)
 refine wc_as (l' := [(0, rAgg (eTApiEvent a)), (1, rAgg (eTApiEvent b))]) (H' := []) rfl rfl ?_
 unfold eSame at h
 refine wc_sr (w_box_agg rfl rfl (fun b1 => ?_))
 refine w_box_agg rfl rfl (fun b2 => ?_)
 refine wv (r := rB false) (o_assign rfl) (wl_x ?_)
 obtain ⟨g3, h4⟩ := chk_e h
 refine wc_seq_mid [(4, rB ((decide (a.fID = b.fID)) && ((decide (a.fTenant = b.fTenant)) && ((decide (a.fSource = b.fSource)) && ((decide (a.fKey = b.fKey)) && ((decide (a.fAt = b.fAt)) && ((decide (a.fCause = b.fCause)) && (ov (slEqual F a.fBody b.fBody)))))))))] [] ?_ ?_
 ·refine wc_region (wv (o_fieldAddr Tryd.underlying24 rfl Tryd.sizeOf9 rfl rfl) (wv (o_load (i := 1) Tryd.isAgg9 rfl rfl rfl) (wv (o_fieldAddr Tryd.underlying24 rfl Tryd.sizeOf9 rfl rfl) (wv (o_load (i := 0) Tryd.isAgg9 rfl rfl rfl) (wv (o_seq rfl rfl) (wm rfl (bsplit (decide (a.fID = b.fID)) (fun c5 => ?_) (fun c5 => ?_))))))))
  ·refine wo c5 (wv (o_fieldAddr Tryd.underlying24 rfl Tryd.sizeOf9 rfl rfl) (wo c5 (wv (o_load (i := 1) Tryd.isAgg9 rfl rfl rfl) (wo c5 (wv (o_fieldAddr Tryd.underlying24 rfl Tryd.sizeOf9 rfl rfl) (wo c5 (wv (o_load (i := 0) Tryd.isAgg9 rfl rfl rfl) (wo c5 (wv (o_seq rfl rfl) (wpt rfl c5 rfl (wm rfl (bsplit (decide (a.fTenant = b.fTenant)) (fun c6 => ?_) (fun c6 => ?_)))))))))))))
   ·refine wo c6 (wv (o_fieldAddr Tryd.underlying24 rfl Tryd.sizeOf9 rfl rfl) (wo c6 (wv (o_load (i := 1) Tryd.isAgg9 rfl rfl rfl) (wo c6 (wv (o_fieldAddr Tryd.underlying24 rfl Tryd.sizeOf9 rfl rfl) (wo c6 (wv (o_load (i := 0) Tryd.isAgg9 rfl rfl rfl) (wo c6 (wv (o_seq rfl rfl) (wpt rfl c6 rfl (wm rfl (bsplit (decide (a.fSource = b.fSource)) (fun c7 => ?_) (fun c7 => ?_)))))))))))))
    ·refine wo c7 (wv (o_fieldAddr Tryd.underlying24 rfl Tryd.sizeOf9 rfl rfl) (wo c7 (wv (o_load (i := 1) Tryd.isAgg9 rfl rfl rfl) (wo c7 (wv (o_fieldAddr Tryd.underlying24 rfl Tryd.sizeOf9 rfl rfl) (wo c7 (wv (o_load (i := 0) Tryd.isAgg9 rfl rfl rfl) (wo c7 (wv (o_seq rfl rfl) (wpt rfl c7 rfl (wm rfl (bsplit (decide (a.fKey = b.fKey)) (fun c8 => ?_) (fun c8 => ?_)))))))))))))
     ·refine wo c8 (wv (o_fieldAddr Tryd.underlying24 rfl Tryd.sizeOf3 rfl rfl) (wo c8 (wv (o_load (i := 1) Tryd.isAgg3 rfl rfl rfl) (wo c8 (wv (o_fieldAddr Tryd.underlying24 rfl Tryd.sizeOf3 rfl rfl) (wo c8 (wv (o_load (i := 0) Tryd.isAgg3 rfl rfl rfl) (wo c8 (wv (o_eq rfl rfl) (wpt rfl c8 rfl (wm rfl (bsplit (decide (a.fAt = b.fAt)) (fun c9 => ?_) (fun c9 => ?_)))))))))))))
      ·refine wo c9 (wv (o_fieldAddr Tryd.underlying24 rfl Tryd.sizeOf9 rfl rfl) (wo c9 (wv (o_load (i := 1) Tryd.isAgg9 rfl rfl rfl) (wo c9 (wv (o_fieldAddr Tryd.underlying24 rfl Tryd.sizeOf9 rfl rfl) (wo c9 (wv (o_load (i := 0) Tryd.isAgg9 rfl rfl rfl) (wo c9 (wv (o_seq rfl rfl) (wpt rfl c9 rfl (wm rfl (bsplit (decide (a.fCause = b.fCause)) (fun c10 => ?_) (fun c10 => ?_)))))))))))))
       ·refine wo c10 (wv (o_fieldAddr Tryd.underlying24 rfl Tryd.sizeOf22 rfl rfl) (wo c10 (wv (o_load (i := 1) Tryd.isAgg22 rfl rfl rfl) (wo c10 (wv (o_fieldAddr Tryd.underlying24 rfl Tryd.sizeOf22 rfl rfl) (wo c10 (wv (o_load (i := 0) Tryd.isAgg22 rfl rfl rfl) (wo c10 (wc0 Tryd.call22 (slEqual_w F a.fBody b.fBody (ov (slEqual F a.fBody b.fBody)) (ov_e (imp_t (imp_t (imp_t (imp_t (imp_t (imp_t g3 c5) c6) c7) c8) c9) c10))) rfl (wpt rfl c10 rfl (wa rfl (wl_nil ?_))))))))))))
        exact wtc (And.intro c5 (And.intro c6 (And.intro c7 (And.intro c8 (And.intro c9 c10)))))
       ·refine wf c10 (wf c10 (wf c10 (wf c10 (wf c10 (wv (r := rB false) (o_pick_f (b := decide (a.fCause = b.fCause)) rfl c10 rfl) (wa rfl (wl_nil ?_)))))))
        exact wtc (And.intro c5 (And.intro c6 (And.intro c7 (And.intro c8 (And.intro c9 c10)))))
      ·refine wf c9 (wf c9 (wf c9 (wf c9 (wf c9 (wv (r := rB false) (o_pick_f (b := decide (a.fAt = b.fAt)) rfl c9 rfl) (wm rfl (wl_off (b := false) rfl rfl rfl rfl (wl_off (b := false) rfl rfl rfl rfl (wl_off (b := false) rfl rfl rfl rfl (wl_off (b := false) rfl rfl rfl rfl (wl_off (b := false) rfl rfl rfl rfl (wv (r := rB false) (o_pick_f (b := false) rfl rfl rfl) (wa rfl (wl_nil ?_))))))))))))))
       exact wtc (And.intro c5 (And.intro c6 (And.intro c7 (And.intro c8 c9))))
     ·refine wf c8 (wf c8 (wf c8 (wf c8 (wf c8 (wv (r := rB false) (o_pick_f (b := decide (a.fKey = b.fKey)) rfl c8 rfl) (wm rfl (wl_off (b := false) rfl rfl rfl rfl (wl_off (b := false) rfl rfl rfl rfl (wl_off (b := false) rfl rfl rfl rfl (wl_off (b := false) rfl rfl rfl rfl (wl_off (b := false) rfl rfl rfl rfl (wv (r := rB false) (o_pick_f (b := false) rfl rfl rfl) (wm rfl (wl_off (b := false) rfl rfl rfl rfl (wl_off (b := false) rfl rfl rfl rfl (wl_off (b := false) rfl rfl rfl rfl (wl_off (b := false) rfl rfl rfl rfl (wl_off (b := false) rfl rfl rfl rfl (wv (r := rB false) (o_pick_f (b := false) rfl rfl rfl) (wa rfl (wl_nil ?_)))))))))))))))))))))
      exact wtc (And.intro c5 (And.intro c6 (And.intro c7 c8)))
    ·refine wf c7 (wf c7 (wf c7 (wf c7 (wf c7 (wv (r := rB false) (o_pick_f (b := decide (a.fSource = b.fSource)) rfl c7 rfl) (wm rfl (wl_off (b := false) rfl rfl rfl rfl (wl_off (b := false) rfl rfl rfl rfl (wl_off (b := false) rfl rfl rfl rfl (wl_off (b := false) rfl rfl rfl rfl (wl_off (b := false) rfl rfl rfl rfl (wv (r := rB false) (o_pick_f (b := false) rfl rfl rfl) (wm rfl (wl_off (b := false) rfl rfl rfl rfl (wl_off (b := false) rfl rfl rfl rfl (wl_off (b := false) rfl rfl rfl rfl (wl_off (b := false) rfl rfl rfl rfl (wl_off (b := false) rfl rfl rfl rfl (wv (r := rB false) (o_pick_f (b := false) rfl rfl rfl) (wm rfl (wl_off (b := false) rfl rfl rfl rfl (wl_off (b := false) rfl rfl rfl rfl (wl_off (b := false) rfl rfl rfl rfl ?_)))))))))))))))))))))))
     refine wl_off (b := false) rfl rfl rfl rfl (wl_off (b := false) rfl rfl rfl rfl (wv (r := rB false) (o_pick_f (b := false) rfl rfl rfl) (wa rfl (wl_nil ?_))))
     exact wtc (And.intro c5 (And.intro c6 c7))
   ·refine wf c6 (wf c6 (wf c6 (wf c6 (wf c6 (wv (r := rB false) (o_pick_f (b := decide (a.fTenant = b.fTenant)) rfl c6 rfl) (wm rfl (wl_off (b := false) rfl rfl rfl rfl (wl_off (b := false) rfl rfl rfl rfl (wl_off (b := false) rfl rfl rfl rfl (wl_off (b := false) rfl rfl rfl rfl (wl_off (b := false) rfl rfl rfl rfl (wv (r := rB false) (o_pick_f (b := false) rfl rfl rfl) (wm rfl (wl_off (b := false) rfl rfl rfl rfl (wl_off (b := false) rfl rfl rfl rfl (wl_off (b := false) rfl rfl rfl rfl (wl_off (b := false) rfl rfl rfl rfl (wl_off (b := false) rfl rfl rfl rfl (wv (r := rB false) (o_pick_f (b := false) rfl rfl rfl) (wm rfl (wl_off (b := false) rfl rfl rfl rfl (wl_off (b := false) rfl rfl rfl rfl (wl_off (b := false) rfl rfl rfl rfl ?_)))))))))))))))))))))))
    refine wl_off (b := false) rfl rfl rfl rfl (wl_off (b := false) rfl rfl rfl rfl (wv (r := rB false) (o_pick_f (b := false) rfl rfl rfl) (wm rfl (wl_off (b := false) rfl rfl rfl rfl (wl_off (b := false) rfl rfl rfl rfl (wl_off (b := false) rfl rfl rfl rfl (wl_off (b := false) rfl rfl rfl rfl (wl_off (b := false) rfl rfl rfl rfl (wv (r := rB false) (o_pick_f (b := false) rfl rfl rfl) (wa rfl (wl_nil ?_)))))))))))
    exact wtc (And.intro c5 c6)
  ·refine wf c5 (wf c5 (wf c5 (wf c5 (wf c5 (wv (r := rB false) (o_pick_f (b := decide (a.fID = b.fID)) rfl c5 rfl) (wm rfl (wl_off (b := false) rfl rfl rfl rfl (wl_off (b := false) rfl rfl rfl rfl (wl_off (b := false) rfl rfl rfl rfl (wl_off (b := false) rfl rfl rfl rfl (wl_off (b := false) rfl rfl rfl rfl (wv (r := rB false) (o_pick_f (b := false) rfl rfl rfl) (wm rfl (wl_off (b := false) rfl rfl rfl rfl (wl_off (b := false) rfl rfl rfl rfl (wl_off (b := false) rfl rfl rfl rfl (wl_off (b := false) rfl rfl rfl rfl (wl_off (b := false) rfl rfl rfl rfl (wv (r := rB false) (o_pick_f (b := false) rfl rfl rfl) (wm rfl (wl_off (b := false) rfl rfl rfl rfl (wl_off (b := false) rfl rfl rfl rfl (wl_off (b := false) rfl rfl rfl rfl ?_)))))))))))))))))))))))
   refine wl_off (b := false) rfl rfl rfl rfl (wl_off (b := false) rfl rfl rfl rfl (wv (r := rB false) (o_pick_f (b := false) rfl rfl rfl) (wm rfl (wl_off (b := false) rfl rfl rfl rfl (wl_off (b := false) rfl rfl rfl rfl (wl_off (b := false) rfl rfl rfl rfl (wl_off (b := false) rfl rfl rfl rfl (wl_off (b := false) rfl rfl rfl rfl (wv (r := rB false) (o_pick_f (b := false) rfl rfl rfl) (wm rfl (wl_off (b := false) rfl rfl rfl rfl (wl_off (b := false) rfl rfl rfl rfl (wl_off (b := false) rfl rfl rfl rfl (wl_off (b := false) rfl rfl rfl rfl (wl_off (b := false) rfl rfl rfl rfl (wv (r := rB false) (o_pick_f (b := false) rfl rfl rfl) (wa rfl (wl_nil ?_))))))))))))))))))
   exact wtc c5
 refine wc_ret ?_
 obtain rfl := some_e h4
 exact wk_ret (r_1 Tryd.results9 (rv_t rfl)) sN ⟨rfl, rfl⟩

theorem eCmp_w (a : TApiEvent) (b : TApiEvent) (r : Int) (h : eCmp a b = some r) : Fn Tryd.prog GE 15 [rAgg (eTApiEvent a), rAgg (eTApiEvent b)] [] (fun R H => R = rI .i64 r ∧ H = []) := by
 refine enter (n := 22) Tryd.func15 rfl Tryd.ntmps15 rfl (fun w Z => ?_)
 refine wc_as (l' := [(0, rAgg (eTApiEvent a)), (1, rAgg (eTApiEvent b))]) (H' := []) rfl rfl ?_
 unfold eCmp at h
 refine wc_sr (w_box_agg rfl rfl (fun b1 => ?_))
 refine w_box_agg rfl rfl (fun b2 => ?_)
 refine wv (r := rI .i64 0) (o_assign rfl) (wl_x (wc_seq (wc_block (wc_sr (wv (o_fieldAddr Tryd.underlying24 rfl Tryd.sizeOf3 rfl rfl) (wv (o_load (i := 1) Tryd.isAgg3 rfl rfl rfl) (wv (o_fieldAddr Tryd.underlying24 rfl Tryd.sizeOf3 rfl rfl) (wv (o_load (i := 0) Tryd.isAgg3 rfl rfl rfl) (wv (o_lt rfl rfl) (wa rfl (wl_x (wc_cond (b := decide (a.fAt < b.fAt)) rfl (fun c3 => ?_) (fun c3 => ?_)))))))))))))
 ·have h4 := cnd_t c3 h
  refine wc_sr (wv (r := rI .i64 (-1)) (o_assign rfl) (wl_x (wc_ret (wk_in_ret (wk_then_ret ?_)))))
  obtain rfl := some_e h4
  exact wk_ret (r_1 Tryd.results15 (rv_t rfl)) (sS (sS sN)) ⟨rfl, rfl⟩
 ·have h5 := cnd_f c3 h
  refine wc_sr (wv (o_fieldAddr Tryd.underlying24 rfl Tryd.sizeOf3 rfl rfl) (wv (o_load (i := 1) Tryd.isAgg3 rfl rfl rfl) (wv (o_fieldAddr Tryd.underlying24 rfl Tryd.sizeOf3 rfl rfl) (wv (o_load (i := 0) Tryd.isAgg3 rfl rfl rfl) (wv (o_gt rfl rfl) (wa rfl (wl_x (wc_cond (b := decide (b.fAt < a.fAt)) rfl (fun c6 => ?_) (fun c6 => ?_)))))))))
  ·have h7 := cnd_t c6 h5
   refine wc_sr (wv (r := rI .i64 1) (o_assign rfl) (wl_x (wc_ret (wk_in_ret (wk_then_ret ?_)))))
   obtain rfl := some_e h7
   exact wk_ret (r_1 Tryd.results15 (rv_t rfl)) (sS (sS sN)) ⟨rfl, rfl⟩
  ·have h8 := cnd_f c6 h5
   refine wc_skip (wk_in_norm (wk_x (wc_sr (wv (o_fieldAddr Tryd.underlying24 rfl Tryd.sizeOf9 rfl rfl) (wv (o_load (i := 1) Tryd.isAgg9 rfl rfl rfl) (wv (o_fieldAddr Tryd.underlying24 rfl Tryd.sizeOf9 rfl rfl) (wv (o_load (i := 0) Tryd.isAgg9 rfl rfl rfl) (w_call0 (rs := [rS a.fID, rS b.fID]) (r := rI .i64 (Lib.compareBytes a.fID b.fID)) Tryd.call28 rfl (compare_q a.fID b.fID) rfl rfl (wa rfl (wl_x (wc_ret ?_)))))))))))
   obtain rfl := some_e h8
   exact wk_ret (r_1 Tryd.results15 (rv_t rfl)) (sS (sS sN)) ⟨rfl, rfl⟩

theorem eChild_w (F : Nat) (e : TApiEvent) (n : Int) (source : Str) (body : (List TApiCell)) (at_ : Int) (r : TApiEvent × Int) (h : eChild F e n source body at_ = some r) : Fn Tryd.prog GE 12 [rAgg (eTApiEvent e), rI .i64 n, rS source, rSl 4 (List.map eTApiCell body), rI .i64 at_] [] (fun R H => R = rTup [rAgg (eTApiEvent r.1), rI .i64 r.2] ∧ H = []) := by
 refine enter (n := 53) Tryd.func12 rfl Tryd.ntmps12 rfl (fun w Z => ?_)
 refine wc_as (l' := [(0, rAgg (eTApiEvent e)), (1, rI .i64 n), (2, rS source), (3, rSl 4 (List.map eTApiCell body)), (4, rI .i64 at_)]) (H' := []) rfl rfl ?_
 unfold eChild at h
 refine wc_sr (w_box_agg rfl rfl (fun b1 => ?_))
 refine w_alloc (cs := [rS ([] : Str), rS ([] : Str), rS ([] : Str), rS ([] : Str), rI .i64 0, rS ([] : Str), rv (.slice none 0 0)]) Tryd.zeroValue24 rfl rfl (fun b2 => ?_)
 refine wv (r := rI .i64 0) (o_assign rfl) (wl_x (wc_seq (wc_sr (wv (o_load_agg (i := 1) Tryd.isAgg24 Tryd.sizeOf24 rfl rfl rfl rfl) ?_))))
 obtain ⟨r3, e5, h4⟩ := obn_e h
 refine wc0 Tryd.call10 (eCheck_w F e r3 e5) rfl (wa rfl (wl_y (wm rfl (wv (o_ne rfl rfl) (wl_x (wc_cond (b := !decide (r3 = 0)) rfl (fun c6 => ?_) (fun c6 => ?_)))))))
 ·have h7 := cnd_t c6 h4
  refine wc_sr (wv (r := rAgg [rS ([] : Str), rS ([] : Str), rS ([] : Str), rS ([] : Str), rI .i64 0, rS ([] : Str), rv (.slice none 0 0)]) (o_build24_ ) (wm rfl (u_store_agg (i := 0) Tryd.sizeOf24 rfl rfl rfl (OneAll.c rfl) rfl rfl (cs' := [rS ([] : Str), rS ([] : Str), rS ([] : Str), rS ([] : Str), rI .i64 0, rS ([] : Str), rv (.slice none 0 0)]) rfl (H' := [.blk b2 [rS ([] : Str), rS ([] : Str), rS ([] : Str), rS ([] : Str), rI .i64 0, rS ([] : Str), rv (.slice none 0 0)] 24, .blk b1 (eTApiEvent e) 24]) rfl (wa rfl (wl_x (wc_ret (wk_then_ret (WK.upBlk (i := 0) (cs' := [rS ([] : Str), rS ([] : Str), rS ([] : Str), rS ([] : Str), rI .i64 0, rS ([] : Str), rSl 4 (List.map eTApiCell ([] : List TApiCell))]) rfl ⟨Up.refl _, Up.refl _, Up.refl _, Up.refl _, Up.refl _, Up.refl _, Up.le (Rle.nil _), trivial⟩ ?_))))))))
  obtain rfl := some_e h7
  exact wk_ret (r_2 Tryd.results12 (rv_ca (i := 0) Tryd.isAgg24 Tryd.sizeOf24 rfl rfl rfl) (rv_t rfl)) (sS (sS sN)) ⟨rfl, rfl⟩
 ·have h8 := cnd_f c6 h4
  refine wc_skip (wk_x (wc_sr (wv (o_fieldAddr Tryd.underlying24 rfl Tryd.sizeOf9 rfl rfl) (wv (o_load (i := 1) Tryd.isAgg9 rfl rfl rfl) (wm rfl ?_)))))
  obtain ⟨g9, h10⟩ := chk_e h8
  obtain ⟨g11, h12⟩ := chk_e h10
  refine w_call0 (rs := [rS e.fID, rI .i64 n]) (r := rTup [rS (childV e.fID n), rI .i64 (childE e.fID n)]) Tryd.call25 rfl (child_q e.fID n g9 g11) rfl rfl (wm rfl (wv (o_extract rfl rfl) (wv (o_extract rfl rfl) (wa rfl (wa rfl (wl_x (wc_seq (wc_sr (wm rfl (wv (o_ne rfl rfl) (wl_x (wc_cond (b := !decide ((childE e.fID n) = 0)) rfl (fun c13 => ?_) (fun c13 => ?_)))))))))))))
  ·have h14 := cnd_t c13 h12
   refine wc_sr (wv (r := rAgg [rS ([] : Str), rS ([] : Str), rS ([] : Str), rS ([] : Str), rI .i64 0, rS ([] : Str), rv (.slice none 0 0)]) (o_build24_ ) (wm rfl (u_store_agg (i := 0) Tryd.sizeOf24 rfl rfl rfl (OneAll.c rfl) rfl rfl (cs' := [rS ([] : Str), rS ([] : Str), rS ([] : Str), rS ([] : Str), rI .i64 0, rS ([] : Str), rv (.slice none 0 0)]) rfl (H' := [.blk b2 [rS ([] : Str), rS ([] : Str), rS ([] : Str), rS ([] : Str), rI .i64 0, rS ([] : Str), rv (.slice none 0 0)] 24, .blk b1 (eTApiEvent e) 24]) rfl (wa rfl (wl_x (wc_ret (wk_then_ret (WK.upBlk (i := 0) (cs' := [rS ([] : Str), rS ([] : Str), rS ([] : Str), rS ([] : Str), rI .i64 0, rS ([] : Str), rSl 4 (List.map eTApiCell ([] : List TApiCell))]) rfl ⟨Up.refl _, Up.refl _, Up.refl _, Up.refl _, Up.refl _, Up.refl _, Up.le (Rle.nil _), trivial⟩ ?_))))))))
   obtain rfl := some_e h14
   exact wk_ret (r_2 Tryd.results12 (rv_ca (i := 0) Tryd.isAgg24 Tryd.sizeOf24 rfl rfl rfl) (rv_t rfl)) (sS (sS sN)) ⟨rfl, rfl⟩
  ·have h15 := cnd_f c13 h12
   refine wc_skip (wk_x (wc_seq ?_))
   obtain ⟨r16, e18, h17⟩ := obn_e h15
   refine wc_rdak 13 [2, 3, 4, 5, 10, 13] [⟨[], rS (childV e.fID n), none, none, none⟩, ⟨[], rv (.pointer (some ⟨b1, 1, none⟩)), none, none, none⟩, ⟨[1], rS e.fTenant, none, none, none⟩, ⟨[], rS source, none, none, none⟩, ⟨[], rv (.pointer (some ⟨b1, 3, none⟩)), none, none, none⟩, ⟨[4], rS e.fKey, none, none, none⟩, ⟨[], rI .i64 at_, none, none, none⟩, ⟨[], rv (.pointer (some ⟨b1, 0, none⟩)), none, none, none⟩, ⟨[7], rS e.fID, none, none, none⟩, ⟨[], rSl 4 (List.map eTApiCell body), none, none, none⟩, ⟨[9], rSl 4 (List.map eTApiCell r16), none, none, none⟩, ⟨[0, 2, 3, 5, 6, 8, 10], rAgg [rS (childV e.fID n), rS e.fTenant, rS source, rS e.fKey, rI .i64 at_, rS e.fID, rSl 4 (List.map eTApiCell r16)], none, none, none⟩, ⟨[], rv undef, some ([rS ([] : Str), rS ([] : Str), rS ([] : Str), rS ([] : Str), rI .i64 0, rS ([] : Str), rv (.slice none 0 0)], 24), none, none⟩] ?_ (fun β => ?_)
   ·refine oaq (o_move rfl) (oaq (o_fieldAddr Tryd.underlying24 rfl Tryd.sizeOf9 rfl rfl) (oaf (o_load (i := 1) Tryd.isAgg9 rfl rfl rfl) (oaq (o_move rfl) (oaq (o_fieldAddr Tryd.underlying24 rfl Tryd.sizeOf9 rfl rfl) (oaf (o_load (i := 1) Tryd.isAgg9 rfl rfl rfl) (oaq (o_move rfl) (oaq (o_fieldAddr Tryd.underlying24 rfl Tryd.sizeOf9 rfl rfl) (oaf (o_load (i := 1) Tryd.isAgg9 rfl rfl rfl) (oaq (o_move rfl) (oac (ok_c0 Tryd.call26 (cloneN_w body r16 e18) rfl) (oaq (o_build24_0_1_2_3_4_5_6 rfl rfl rfl rfl rfl rfl rfl rfl rfl rfl rfl rfl rfl rfl) (oal (al_ok (cs := [rS ([] : Str), rS ([] : Str), rS ([] : Str), rS ([] : Str), rI .i64 0, rS ([] : Str), rv (.slice none 0 0)]) Tryd.zeroValue24 rfl) ?_))))))))))))
    exact oae
   refine wl_kza (H1 := [.blk b2 [rS ([] : Str), rS ([] : Str), rS ([] : Str), rS ([] : Str), rI .i64 0, rS ([] : Str), rv (.slice none 0 0)] 24, .blk b1 (eTApiEvent e) 24, .blk (β 12) [rS ([] : Str), rS ([] : Str), rS ([] : Str), rS ([] : Str), rI .i64 0, rS ([] : Str), rv (.slice none 0 0)] 24]) [34, 35, 36, 37, 38, 39, 40, 41, 42, 43, 44, 45, 15, 2, 3, 4, 5, 10, 13] ?_
   generalize β 12 = b19
   refine u_store_agg (i := 2) Tryd.sizeOf24 rfl rfl rfl (OneAll.c rfl) rfl rfl (cs' := [rS (childV e.fID n), rS e.fTenant, rS source, rS e.fKey, rI .i64 at_, rS e.fID, rSl 4 (List.map eTApiCell r16)]) rfl (H' := [.blk b2 [rS ([] : Str), rS ([] : Str), rS ([] : Str), rS ([] : Str), rI .i64 0, rS ([] : Str), rv (.slice none 0 0)] 24, .blk b1 (eTApiEvent e) 24, .blk b19 [rS (childV e.fID n), rS e.fTenant, rS source, rS e.fKey, rI .i64 at_, rS e.fID, rSl 4 (List.map eTApiCell r16)] 24]) rfl (wl_x (wc_seq (wc_sr (wv (o_load_agg (i := 2) Tryd.isAgg24 Tryd.sizeOf24 rfl rfl rfl rfl) ?_))))
   obtain ⟨r20, e22, h21⟩ := obn_e h17
   refine wc0 Tryd.call10 (eCheck_w F (TApiEvent.mk (childV e.fID n) e.fTenant source e.fKey at_ e.fID r16) r20 e22) rfl (wa rfl (wl_y (wm rfl (wv (o_ne rfl rfl) (wl_x (wc_cond (b := !decide (r20 = 0)) rfl (fun c23 => ?_) (fun c23 => ?_)))))))
   ·have h24 := cnd_t c23 h21
    refine wc_sr (wv (r := rAgg [rS ([] : Str), rS ([] : Str), rS ([] : Str), rS ([] : Str), rI .i64 0, rS ([] : Str), rv (.slice none 0 0)]) (o_build24_ ) (wm rfl (u_store_agg (i := 0) Tryd.sizeOf24 rfl rfl rfl (OneAll.c rfl) rfl rfl (cs' := [rS ([] : Str), rS ([] : Str), rS ([] : Str), rS ([] : Str), rI .i64 0, rS ([] : Str), rv (.slice none 0 0)]) rfl (H' := [.blk b2 [rS ([] : Str), rS ([] : Str), rS ([] : Str), rS ([] : Str), rI .i64 0, rS ([] : Str), rv (.slice none 0 0)] 24, .blk b1 (eTApiEvent e) 24, .blk b19 [rS (childV e.fID n), rS e.fTenant, rS source, rS e.fKey, rI .i64 at_, rS e.fID, rSl 4 (List.map eTApiCell r16)] 24]) rfl (wa rfl (wl_x (wc_ret (wk_then_ret (WK.upBlk (i := 0) (cs' := [rS ([] : Str), rS ([] : Str), rS ([] : Str), rS ([] : Str), rI .i64 0, rS ([] : Str), rSl 4 (List.map eTApiCell ([] : List TApiCell))]) rfl ⟨Up.refl _, Up.refl _, Up.refl _, Up.refl _, Up.refl _, Up.refl _, Up.le (Rle.nil _), trivial⟩ ?_))))))))
    obtain rfl := some_e h24
    exact wk_ret (r_2 Tryd.results12 (rv_ca (i := 0) Tryd.isAgg24 Tryd.sizeOf24 rfl rfl rfl) (rv_t rfl)) (sS (sS (sS sN))) ⟨rfl, rfl⟩
   ·have h25 := cnd_f c23 h21
    refine wc_skip (wk_x (wc_sr (wv (o_load_agg (i := 2) Tryd.isAgg24 Tryd.sizeOf24 rfl rfl rfl rfl) (u_store_agg (i := 0) Tryd.sizeOf24 rfl rfl rfl (OneAll.c rfl) rfl rfl (cs' := [rS (childV e.fID n), rS e.fTenant, rS source, rS e.fKey, rI .i64 at_, rS e.fID, rSl 4 (List.map eTApiCell r16)]) rfl (H' := [.blk b2 [rS (childV e.fID n), rS e.fTenant, rS source, rS e.fKey, rI .i64 at_, rS e.fID, rSl 4 (List.map eTApiCell r16)] 24, .blk b1 (eTApiEvent e) 24, .blk b19 [rS (childV e.fID n), rS e.fTenant, rS source, rS e.fKey, rI .i64 at_, rS e.fID, rSl 4 (List.map eTApiCell r16)] 24]) rfl (wv (r := rI .i64 0) (o_assign rfl) (wl_x (wc_ret ?_)))))))
    obtain rfl := some_e h25
    exact wk_ret (r_2 Tryd.results12 (rv_ca (i := 0) Tryd.isAgg24 Tryd.sizeOf24 rfl rfl rfl) (rv_t rfl)) (sS (sS (sS sN))) ⟨rfl, rfl⟩

theorem eLineage_w (F : Nat) (id : Str) (r : (List Str)) (h : eLineage F id = some r) : Fn Tryd.prog GE 13 [rS id] [] (fun R H => R = rSl 1 (List.map eS r) ∧ H = []) := by
 refine enter (n := 30) Tryd.func13 rfl Tryd.ntmps13 rfl (fun w Z => ?_)
 refine wc_as (l' := [(0, rS id)]) (H' := []) rfl rfl ?_
 unfold eLineage at h
 refine wc_sr (wv (r := rv (.slice none 0 0)) (o_assign rfl) (wl_x (wc_seq (wc_sr (wm rfl (w_call0 (rs := [rS id]) (r := rB (idS id)) Tryd.call23 rfl (id_q id) rfl rfl (wv (o_not rfl) (wl_x (wc_cond (b := !(idS id)) rfl (fun c1 => ?_) (fun c1 => ?_))))))))))
 ·have h2 := cnd_t c1 h
  refine wc_sr (wv (r := rv (.slice none 0 0)) (o_assign rfl) (wl_x (wc_ret (wk_then_ret (WK.up (d := 2) (r := rSl 1 (List.map eS ([] : List Str))) rfl (Up.le (Rle.nil _)) ?_)))))
  obtain rfl := some_e h2
  exact wk_ret (r_1 Tryd.results13 (rv_t rfl)) sN ⟨rfl, rfl⟩
 ·have h3 := cnd_f c1 h
  refine wc_skip (wk_x (wc_sr (wm rfl (w_buildSlice (ys := ([id] : List Str)) (enc := eS) (css := [[rS id]]) (xs := [.tmp 10]) Tryd.underlying37 Tryd.sizeOf9 Tryd.zeroValue9 rfl rfl rfl ⟨Cel.one rfl (Up.refl _), trivial⟩ rfl eS_len rfl rfl rfl (fun b4 => ?_)))))
  refine wa rfl (wl_x (wc_block ?_))
  obtain ⟨o48, eo49, hK50⟩ := obn_e h3
  refine wc_loop2 (S := Nat × ((List Str)) × (Value)) (V := (Unit) × (Unit)) 0 (fun σ => lop (fun σ => eLineage_b1 σ) σ.1 σ.2.1 = some o48) (fun σ => [(2, rv (.slice none 0 0)), (3, rv σ.2.2)]) (fun σ => [.row σ.2.2 9 1 (List.map eS σ.2.1)]) (fun σ => σ.1) (F, ([id] : List Str), (.slice (some ⟨b4, 0, none⟩) 1 1)) eo49 (Sub.c rfl (Sub.c rfl Sub.nil)) (sC sN) (fun σ => eLineage_k1  = some r) (fun σ => []) (fun σ => []) ?_ ?_
  ·rintro ⟨n56, x33, v34⟩ hi54
   refine wc_as (l' := [(2, rv (.slice none 0 0)), (3, rv v34)]) (H' := [.row v34 9 1 (List.map eS x33)]) rfl rfl ?_
   obtain ⟨m53, rfl, t51, h55, ht52⟩ := lop_e hi54
   replace h55 : eLineage_b1 x33 = some t51 := h55
   unfold eLineage_b1 at h55
   refine wc_block (wc_sr (wm rfl (wm rfl (wv (o_len_wt (ys := x33) (enc := eS) (i := 0) Tryd.underlying37 rfl rfl) ?_))))
   obtain ⟨g57, h58⟩ := chk_e h55
   refine wv (o_sub rfl rfl g57) ?_
   obtain ⟨g59, h60⟩ := chk_e h58
   refine wv (r := rv (elp 1 v34 (Int.toNat ((x33.length : Int) - 1)) 0)) (o_ix_w (i := 0) Tryd.underlying37 Tryd.sizeOf9 rfl rfl rfl (len_map g59)) (wv (r := rS (at' x33 ((x33.length : Int) - 1))) (o_ld_w (enc := eS) (ys := x33) (i := 0) (j := (x33.length : Int) - 1) Tryd.isAgg9 rfl rfl g59 rfl) ?_)
   obtain ⟨g61, h62⟩ := chk_e h60
   refine w_call0 (rs := [rS (at' x33 ((x33.length : Int) - 1))]) (r := rTup [rS (iff0 (parOk (at' x33 ((x33.length : Int) - 1))) (parP (at' x33 ((x33.length : Int) - 1)))), rI .i64 (if parOk (at' x33 ((x33.length : Int) - 1)) = true then parseV (parN (at' x33 ((x33.length : Int) - 1))) else (0 : Int)), rB (parOk (at' x33 ((x33.length : Int) - 1)))]) Tryd.call27 rfl (parent_q (at' x33 ((x33.length : Int) - 1)) g61) rfl rfl (wm rfl (wv (o_extract rfl rfl) (wv (o_extract rfl rfl) (wv (o_extract rfl rfl) (wa rfl (wa rfl (wa rfl (wl_x (wc_seq (wc_sr (wm rfl (wv (o_not rfl) (wl_x (wc_cond (b := !(parOk (at' x33 ((x33.length : Int) - 1)))) rfl (fun c63 => ?_) (fun c63 => ?_)))))))))))))))
   ·have h64 := cnd_t c63 h62
    refine wc_sr (wm rfl (wa rfl (wl_x (wc_ret (wk_then_ret (wk_in_ret (wk_then_ret (wk_cut_ret ?_))))))))
    have h65 := stp_ret h64 ht52 hK50
    refine wk_in_ret (WK.freeze (i := 0) rfl (WK.up (d := 2) (r := rSl 1 (List.map eS x33)) rfl (Up.fact (i := 0) rfl) ?_))
    obtain rfl := some_e h65
    exact wk_ret (r_1 Tryd.results13 (rv_t rfl)) (sS sN) ⟨rfl, rfl⟩
   ·have h66 := cnd_f c63 h62
    refine wc_skip (wk_x (wc_region (wm rfl (wm rfl (w_buildSlice (ys := ([iff0 (parOk (at' x33 ((x33.length : Int) - 1))) (parP (at' x33 ((x33.length : Int) - 1)))] : List Str)) (enc := eS) (css := [[rS (iff0 (parOk (at' x33 ((x33.length : Int) - 1))) (parP (at' x33 ((x33.length : Int) - 1))))]]) (xs := [.tmp 27]) Tryd.underlying37 Tryd.sizeOf9 Tryd.zeroValue9 rfl rfl rfl ⟨Cel.one rfl (Up.refl _), trivial⟩ rfl eS_len rfl rfl rfl (fun b67 => ?_))))))
    obtain ⟨g69, h70⟩ := chk_e h66
    obtain ⟨inf, hinf⟩ := info9
    refine w_append (xs := x33) (ys := ([iff0 (parOk (at' x33 ((x33.length : Int) - 1))) (parP (at' x33 ((x33.length : Int) - 1)))] : List Str)) (enc := eS) (i := 1) Tryd.underlying37 hinf.1 hinf.2.1 hinf.2.2.1 hinf.2.2.2 rfl rfl rfl rfl rfl (Src.w (i := 0) rfl rfl) eS_len eS_one g69 rfl (fun v68 => ?_)
    refine wa rfl (wl_nil (wk_in_norm ?_))
    have h71 := stp_next h70 ht52
    exact wk_then (wk_some (m53, x33 ++ ([iff0 (parOk (at' x33 ((x33.length : Int) - 1))) (parP (at' x33 ((x33.length : Int) - 1)))] : List Str), v68) ⟨h71, Nat.lt_succ_self _⟩ (Sub.c rfl (Sub.c rfl Sub.nil)) (sC (sS sN)))
  ·rintro ⟨⟨⟩, ⟨⟩⟩ h72
   cases h72

end Go.Proofs.YtpmiamphppcfeaaDoor.Q

/-
 What functions compute, with checks: plain definitions, printed by a small program of ours (gq.py). No program in sight.
-/
namespace Go.Proofs.YtpmiamphppcfeaaDoor
open Go
set_option linter.unusedVariables false
def evExample  : Option (TApiEvent) :=
 some (TApiEvent.mk ([101, 49] : Str) ([116] : Str) ([115] : Str) ([] : Str) 5 ([] : Str) ([(TApiCell.mk 1 0 ([] : Str) 0)] : List TApiCell))

def evBody_b1 (v : (List TApiCell)) (x23 : Int) : Option (Stp (Int) (Out (Bool) (Unit))) :=
 cnd (decide (x23 < (v.length : Int))) (chk (inR x23 (v.length : Int)) <| cnd (decide (250 < (((at' v x23).fStr).length : Int))) (some (.out (.ret false))) (chk (inK .i64 (x23 + 1)) <| some (.next (x23 + 1)))) (some (.out (.go ())))

def evBody_k1  : Option (Bool) :=
 some true

def evBody (F : Nat) (v : (List TApiCell)) : Option (Bool) :=
 cnd (decide (250 < (v.length : Int))) (some false) (obn (lop (fun σ => evBody_b1 v σ) F 0) (oute fun ν => evBody_k1 ))

def evSmall (F : Nat) (e : TApiEvent) : Option (Bool) :=
 cnd (((decide (100 < (e.fID.length : Int))) || ((decide (100 < (e.fTenant.length : Int))) || ((decide (100 < (e.fSource.length : Int))) || ((decide (100 < (e.fKey.length : Int))) || (decide (100 < (e.fCause.length : Int)))))))) (some false) (obn (evBody F e.fBody) fun r9 => some r9)

def evAwake (F : Nat)  : Option (Bool) :=
 obn (evExample) fun r1 => obn (eEncode F r1) fun r4 => obn (eDecode F r4.1) fun r7 => obn (evExample) fun r11 => obn (evExample) fun r14 => obn (eChild F r11 0 ([117] : Str) r14.fBody 6) fun r17 => obn (eLineage F ([97, 46, 48, 46, 49, 50] : Str)) fun r21 => obn (evExample) fun r24 => chk (decide (r4.2 = 0)) <| chk (decide (r7.2 = 0)) <| obn (evExample) fun r32 => obn (eSame F r7.1 r32) fun r35 => chk (r35) <| chk (decide (r17.2 = 0)) <| chk (decide (r17.1.fID = ([101, 49, 46, 48] : Str))) <| chk (decide (r17.1.fCause = ([101, 49] : Str))) <| chk (decide ((r21.length : Int) = 3)) <| chk (inR 2 (r21.length : Int)) <| chk (decide ((at' r21 2) = ([97] : Str))) <| obn (eCheck F (TApiEvent.mk r24.fID r24.fTenant r24.fSource r24.fKey (-1) r24.fCause r24.fBody)) fun r52 => chk (decide (r52 = 2)) <| obn (evExample) fun r57 => obn (eCmp (TApiEvent.mk r24.fID r24.fTenant r24.fSource r24.fKey (-1) r24.fCause r24.fBody) r57) fun r60 => some (decide (r60 = (-1)))

end Go.Proofs.YtpmiamphppcfeaaDoor

/-
  Walks, printed by a small program of ours (gq.py).
-/
namespace Go.Proofs.YtpmiamphppcfeaaDoor.Q
open Go Go.RowKit
set_option linter.unusedVariables false
set_option linter.unusedSimpArgs false
set_option maxRecDepth 100000
set_option maxHeartbeats 4000000
theorem o_build24_0_1_2_4_6 {n : Nat} {c : Cx} {l : Fr} {H : List Ent} {d : Option Nat} {ty : TypeId} {pos : String} {af : Array Edge} {g : Option (Nat × Bool)} {x0 : Operand} {r0 : Rp} (h0 : ev l x0 = some r0) (u0 : r0.one = true) {x1 : Operand} {r1 : Rp} (h1 : ev l x1 = some r1) (u1 : r1.one = true) {x2 : Operand} {r2 : Rp} (h2 : ev l x2 = some r2) (u2 : r2.one = true) {x4 : Operand} {r4 : Rp} (h4 : ev l x4 = some r4) (u4 : r4.one = true) {x6 : Operand} {r6 : Rp} (h6 : ev l x6 = some r6) (u6 : r6.one = true) : ORun Tryd.prog n c l H { dst := d, op := .build 24 #[(0, x0), (1, x1), (2, x2), (4, x4), (6, x6)], type := ty, pos := pos, after := af, guard := g } (rAgg [r0, r1, r2, rS ([] : Str), r4, rS ([] : Str), r6]) := fun a w Z ha _ => by
  have p0 := ha.ev h0
  have c0 := cells_one (r0.hone u0 Z _ p0)
  have p1 := ha.ev h1
  have c1 := cells_one (r1.hone u1 Z _ p1)
  have p2 := ha.ev h2
  have c2 := cells_one (r2.hone u2 Z _ p2)
  have p4 := ha.ev h4
  have c4 := cells_one (r4.hone u4 Z _ p4)
  have p6 := ha.ev h6
  have c6 := cells_one (r6.hone u6 Z _ p6)
  have hb : Tryd.prog.built 24 [(0, a.eval x0), (1, a.eval x1), (2, a.eval x2), (4, a.eval x4), (6, a.eval x6)] = some #[a.eval x0, a.eval x1, a.eval x2, (.string ⟨#[]⟩), a.eval x4, (.string ⟨#[]⟩), a.eval x6] := by
    rw [built24]
    generalize a.eval x0 = v0 at *
    generalize a.eval x1 = v1 at *
    generalize a.eval x2 = v2 at *
    generalize a.eval x4 = v4 at *
    generalize a.eval x6 = v6 at *
    simp [Instr.fill, c0, c1, c2, c4, c6]
  refine ⟨.agg #[a.eval x0, a.eval x1, a.eval x2, (.string ⟨#[]⟩), a.eval x4, (.string ⟨#[]⟩), a.eval x6], ⟨[a.eval x0, a.eval x1, a.eval x2, (.string ⟨#[]⟩), a.eval x4, (.string ⟨#[]⟩), a.eval x6], rfl, p0, p1, p2, rfl, p4, rfl, p6, trivial⟩, ?_⟩
  have := run_build w 24 #[(0, a.eval x0), (1, a.eval x1), (2, a.eval x2), (4, a.eval x4), (6, a.eval x6)] _ (by simpa using hb)
  simp [execOp, this]
theorem evExample_w  (r : TApiEvent) (h : evExample = some r) : Fn Tryd.prog GE 14 [] [] (fun R H => R = rAgg (eTApiEvent r) ∧ H = []) := by
 refine enter (n := 4) Tryd.func14 rfl Tryd.ntmps14 rfl (fun w Z => ?_)
 refine wc_as (l' := []) (H' := []) rfl rfl ?_
 unfold evExample at h
 refine wc_sr (w_alloc (cs := [rS ([] : Str), rS ([] : Str), rS ([] : Str), rS ([] : Str), rI .i64 0, rS ([] : Str), rv (.slice none 0 0)]) Tryd.zeroValue24 rfl rfl (fun b1 => ?_))
 refine wl_y (wv (r := rAgg [rI .i64 1, rI .i64 0, rS ([] : Str), rI .i64 0]) (o_build54_0 rfl rfl) (w_buildSlice (ys := ([(TApiCell.mk 1 0 ([] : Str) 0)] : List TApiCell)) (enc := eTApiCell) (css := [[rI .i64 1, rI .i64 0, rS ([] : Str), rI .i64 0]]) (xs := [.tmp 1]) Tryd.underlying22 Tryd.sizeOf54 Tryd.zeroValue54 rfl rfl rfl ⟨Cel.agg ⟨Up.refl _, Up.refl _, Up.refl _, Up.refl _, trivial⟩, trivial⟩ rfl eTApiCell_len rfl rfl rfl (fun b2 => ?_)))
 refine wv (r := rAgg [rS ([101, 49] : Str), rS ([116] : Str), rS ([115] : Str), rS ([] : Str), rI .i64 5, rS ([] : Str), rv (.slice (some ⟨b2, 0, none⟩) 1 1)]) (o_build24_0_1_2_4_6 rfl rfl rfl rfl rfl rfl rfl rfl rfl rfl) (u_store_agg (i := 1) Tryd.sizeOf24 rfl rfl rfl ⟨(one_c rfl), (one_c rfl), (one_c rfl), (one_c rfl), (one_c rfl), (one_c rfl), (one_row (i := 0) rfl), trivial⟩ rfl rfl (cs' := [rS ([101, 49] : Str), rS ([116] : Str), rS ([115] : Str), rS ([] : Str), rI .i64 5, rS ([] : Str), rv (.slice (some ⟨b2, 0, none⟩) 1 1)]) rfl (H' := [.row (.slice (some ⟨b2, 0, none⟩) 1 1) 54 4 (List.map eTApiCell ([(TApiCell.mk 1 0 ([] : Str) 0)] : List TApiCell)), .blk b1 [rS ([101, 49] : Str), rS ([116] : Str), rS ([115] : Str), rS ([] : Str), rI .i64 5, rS ([] : Str), rv (.slice (some ⟨b2, 0, none⟩) 1 1)] 24]) rfl (wl_x (wc_ret (WK.freeze (i := 0) rfl (WK.upBlk (i := 1) (cs' := [rS ([101, 49] : Str), rS ([116] : Str), rS ([115] : Str), rS ([] : Str), rI .i64 5, rS ([] : Str), rSl 4 (List.map eTApiCell ([(TApiCell.mk 1 0 ([] : Str) 0)] : List TApiCell))]) rfl ⟨Up.refl _, Up.refl _, Up.refl _, Up.refl _, Up.refl _, Up.refl _, Up.fact (i := 0) rfl, trivial⟩ ?_)))))
 obtain rfl := some_e h
 exact wk_ret (r_1 Tryd.results14 (rv_ca (i := 1) Tryd.isAgg24 Tryd.sizeOf24 rfl rfl rfl)) (sS (sS sN)) ⟨rfl, rfl⟩

theorem evBody_w (F : Nat) (v : (List TApiCell)) (r : Bool) (h : evBody F v = some r) : Fn Tryd.prog GE 11 [rSl 4 (List.map eTApiCell v)] [] (fun R H => R = rB r ∧ H = []) := by
 refine enter (n := 20) Tryd.func11 rfl Tryd.ntmps11 rfl (fun w Z => ?_)
 refine wc_as (l' := [(0, rSl 4 (List.map eTApiCell v))]) (H' := []) rfl rfl ?_
 unfold evBody at h
 refine wc_sr (wv (r := rB false) (o_assign rfl) (wl_x (wc_seq (wc_sr (wm rfl (wv (o_len_zt (ys := v) (enc := eTApiCell) Tryd.underlying22 rfl) (wv (o_gt rfl rfl) (wl_x (wc_cond (b := decide (250 < (v.length : Int))) rfl (fun c1 => ?_) (fun c1 => ?_))))))))))
 ·have h2 := cnd_t c1 h
  refine wc_sr (wv (r := rB false) (o_assign rfl) (wl_x (wc_ret (wk_then_ret ?_))))
  obtain rfl := some_e h2
  exact wk_ret (r_1 Tryd.results11 (rv_t rfl)) sN ⟨rfl, rfl⟩
 ·have h3 := cnd_f c1 h
  refine wc_skip (wk_x (wc_seq (wc_sr (wm rfl (wv (o_len_zt (ys := v) (enc := eTApiCell) Tryd.underlying22 rfl) (wv (r := rI .i64 0) (o_move rfl) (wl_x (wc_block ?_))))))))
  obtain ⟨o34, eo35, hK36⟩ := obn_e h3
  refine wc_loop2 (S := Nat × (Int) × (Unit)) (V := (Unit) × (Unit)) 0 (fun σ => lop (fun σ => evBody_b1 v σ) σ.1 σ.2.1 = some o34) (fun σ => [(0, rSl 4 (List.map eTApiCell v)), (2, rB false), (8, rI .i64 (v.length : Int)), (9, rI .i64 σ.2.1)]) (fun σ => []) (fun σ => σ.1) (F, 0, ()) eo35 (Sub.c rfl (Sub.c rfl (Sub.c rfl (Sub.c rfl Sub.nil)))) sN (fun σ => evBody_k1  = some r) (fun σ => [(2, rB false)]) (fun σ => []) ?_ ?_
  ·rintro ⟨n42, x23, ⟨⟩⟩ hi40
   refine wc_as (l' := [(0, rSl 4 (List.map eTApiCell v)), (2, rB false), (8, rI .i64 (v.length : Int)), (9, rI .i64 x23)]) (H' := []) rfl rfl ?_
   obtain ⟨m39, rfl, t37, h41, ht38⟩ := lop_e hi40
   replace h41 : evBody_b1 v x23 = some t37 := h41
   unfold evBody_b1 at h41
   refine wc_sr (wv (o_lt rfl rfl) (wl_x (wc_seq (wc_cond (b := decide (x23 < (v.length : Int))) rfl (fun c43 => ?_) (fun c43 => ?_)))))
   ·have h44 := cnd_t c43 h41
    refine wc_skip (wk_x (wc_seq (wc_block (wc_sr (wm rfl (wa rfl (wl_y (wm rfl (wm rfl ?_)))))))))
    obtain ⟨g45, h46⟩ := chk_e h44
    refine wv (o_ix_z (enc := eTApiCell) (ys := v) Tryd.underlying22 Tryd.sizeOf54 rfl rfl g45) (wv (o_fieldAddr_z Tryd.underlying54 rfl Tryd.sizeOf9 rfl rfl) (wv (o_load_z Tryd.isAgg9 rfl rfl) (wv (o_len_s Tryd.underlying9 rfl) (wv (o_gt rfl rfl) (wl_x (wc_cond (b := decide (250 < (((at' v x23).fStr).length : Int))) rfl (fun c47 => ?_) (fun c47 => ?_)))))))
    ·have h48 := cnd_t c47 h46
     refine wc_sr (wv (r := rB false) (o_assign rfl) (wl_x (wc_ret (wk_in_ret (wk_then_ret (wk_then_ret (wk_cut_ret ?_)))))))
     have h49 := stp_ret h48 ht38 hK36
     refine wk_in_ret (wk_then_ret ?_)
     obtain rfl := some_e h49
     exact wk_ret (r_1 Tryd.results11 (rv_t rfl)) sN ⟨rfl, rfl⟩
    ·have h50 := cnd_f c47 h46
     refine wc_skip (wk_in_norm (wk_x (wc_region ?_)))
     obtain ⟨g51, h52⟩ := chk_e h50
     refine wv (o_add rfl rfl g51) (wm rfl (wl_nil ?_))
     have h53 := stp_next h52 ht38
     exact wk_then (wk_some (m39, x23 + 1, ()) ⟨h53, Nat.lt_succ_self _⟩ (Sub.c rfl (Sub.c rfl (Sub.c rfl (Sub.c rfl Sub.nil)))) sN)
   ·have h54 := cnd_f c43 h41
    refine wc_exit (wk_then_exit ?_)
    have h55 := stp_go h54 ht38 hK36
    exact wk_then_exit (wk_cut_hit (wk_some ((), ()) h55 (Sub.c rfl Sub.nil) sN))
  ·rintro ⟨⟨⟩, ⟨⟩⟩ h56
   refine wk_as (l' := [(2, rB false)]) (H' := []) rfl rfl ?_
   replace h56 : evBody_k1  = some r := h56
   unfold evBody_k1 at h56
   refine wk_in_hit (wk_x (wc_sr (wv (r := rB true) (o_assign rfl) (wl_x (wc_ret ?_)))))
   obtain rfl := some_e h56
   exact wk_ret (r_1 Tryd.results11 (rv_t rfl)) sN ⟨rfl, rfl⟩

theorem evSmall_w (F : Nat) (e : TApiEvent) (r : Bool) (h : evSmall F e = some r) : Fn Tryd.prog GE 5 [rAgg (eTApiEvent e)] [] (fun R H => R = rB r ∧ H = []) := by
 refine enter (n := 34) Tryd.func5 rfl Tryd.ntmps5 rfl (fun w Z => ?_)
 refine wc_as (l' := [(0, rAgg (eTApiEvent e))]) (H' := []) rfl rfl ?_
 unfold evSmall at h
 refine wc_sr (w_box_agg rfl rfl (fun b1 => ?_))
 refine wv (r := rB false) (o_assign rfl) (wl_x (wc_seq (wc_seq_mid [(1, rv (.pointer (some ⟨b1, 0, none⟩))), (30, rB ((decide (100 < (e.fID.length : Int))) || ((decide (100 < (e.fTenant.length : Int))) || ((decide (100 < (e.fSource.length : Int))) || ((decide (100 < (e.fKey.length : Int))) || (decide (100 < (e.fCause.length : Int))))))))] [.blk b1 (eTApiEvent e) 24] ?_ ?_)))
 ·refine wc_region (wv (o_fieldAddr Tryd.underlying24 rfl Tryd.sizeOf9 rfl rfl) (wv (o_load (i := 0) Tryd.isAgg9 rfl rfl rfl) (wv (o_len_s Tryd.underlying9 rfl) (wv (o_gt rfl rfl) (wm rfl (bsplit (decide (100 < (e.fID.length : Int))) (fun c2 => ?_) (fun c2 => ?_)))))))
  ·refine wf c2 (wf c2 (wf c2 (wf c2 (wv (r := rB true) (o_pick_t (b := decide (100 < (e.fID.length : Int))) rfl c2 rfl) (wm rfl (wl_off (b := true) rfl rfl rfl rfl (wl_off (b := true) rfl rfl rfl rfl (wl_off (b := true) rfl rfl rfl rfl (wl_off (b := true) rfl rfl rfl rfl (wv (r := rB true) (o_pick_t (b := true) rfl rfl rfl) (wm rfl (wl_off (b := true) rfl rfl rfl rfl (wl_off (b := true) rfl rfl rfl rfl (wl_off (b := true) rfl rfl rfl rfl (wl_off (b := true) rfl rfl rfl rfl (wv (r := rB true) (o_pick_t (b := true) rfl rfl rfl) (wm rfl (wl_off (b := true) rfl rfl rfl rfl (wl_off (b := true) rfl rfl rfl rfl (wl_off (b := true) rfl rfl rfl rfl (wl_off (b := true) rfl rfl rfl rfl (wv (r := rB true) (o_pick_t (b := true) rfl rfl rfl) (wl_nil ?_)))))))))))))))))))))))
   exact wtc c2
  ·refine wo c2 (wv (o_fieldAddr Tryd.underlying24 rfl Tryd.sizeOf9 rfl rfl) (wo c2 (wv (o_load (i := 0) Tryd.isAgg9 rfl rfl rfl) (wo c2 (wv (o_len_s Tryd.underlying9 rfl) (wo c2 (wv (o_gt rfl rfl) (wpf rfl c2 rfl (wm rfl (bsplit (decide (100 < (e.fTenant.length : Int))) (fun c3 => ?_) (fun c3 => ?_)))))))))))
   ·refine wf c3 (wf c3 (wf c3 (wf c3 (wv (r := rB true) (o_pick_t (b := decide (100 < (e.fTenant.length : Int))) rfl c3 rfl) (wm rfl (wl_off (b := true) rfl rfl rfl rfl (wl_off (b := true) rfl rfl rfl rfl (wl_off (b := true) rfl rfl rfl rfl (wl_off (b := true) rfl rfl rfl rfl (wv (r := rB true) (o_pick_t (b := true) rfl rfl rfl) (wm rfl (wl_off (b := true) rfl rfl rfl rfl (wl_off (b := true) rfl rfl rfl rfl (wl_off (b := true) rfl rfl rfl rfl (wl_off (b := true) rfl rfl rfl rfl (wv (r := rB true) (o_pick_t (b := true) rfl rfl rfl) (wl_nil ?_)))))))))))))))))
    exact wtc (And.intro c2 c3)
   ·refine wo c3 (wv (o_fieldAddr Tryd.underlying24 rfl Tryd.sizeOf9 rfl rfl) (wo c3 (wv (o_load (i := 0) Tryd.isAgg9 rfl rfl rfl) (wo c3 (wv (o_len_s Tryd.underlying9 rfl) (wo c3 (wv (o_gt rfl rfl) (wpf rfl c3 rfl (wm rfl (bsplit (decide (100 < (e.fSource.length : Int))) (fun c4 => ?_) (fun c4 => ?_)))))))))))
    ·refine wf c4 (wf c4 (wf c4 (wf c4 (wv (r := rB true) (o_pick_t (b := decide (100 < (e.fSource.length : Int))) rfl c4 rfl) (wm rfl (wl_off (b := true) rfl rfl rfl rfl (wl_off (b := true) rfl rfl rfl rfl (wl_off (b := true) rfl rfl rfl rfl (wl_off (b := true) rfl rfl rfl rfl (wv (r := rB true) (o_pick_t (b := true) rfl rfl rfl) (wl_nil ?_)))))))))))
     exact wtc (And.intro c2 (And.intro c3 c4))
    ·refine wo c4 (wv (o_fieldAddr Tryd.underlying24 rfl Tryd.sizeOf9 rfl rfl) (wo c4 (wv (o_load (i := 0) Tryd.isAgg9 rfl rfl rfl) (wo c4 (wv (o_len_s Tryd.underlying9 rfl) (wo c4 (wv (o_gt rfl rfl) (wpf rfl c4 rfl (wm rfl (bsplit (decide (100 < (e.fKey.length : Int))) (fun c5 => ?_) (fun c5 => ?_)))))))))))
     ·refine wf c5 (wf c5 (wf c5 (wf c5 (wv (r := rB true) (o_pick_t (b := decide (100 < (e.fKey.length : Int))) rfl c5 rfl) (wl_nil ?_)))))
      exact wtc (And.intro c2 (And.intro c3 (And.intro c4 c5)))
     ·refine wo c5 (wv (o_fieldAddr Tryd.underlying24 rfl Tryd.sizeOf9 rfl rfl) (wo c5 (wv (o_load (i := 0) Tryd.isAgg9 rfl rfl rfl) (wo c5 (wv (o_len_s Tryd.underlying9 rfl) (wo c5 (wv (o_gt rfl rfl) (wpf rfl c5 rfl (wl_nil ?_)))))))))
      exact wtc (And.intro c2 (And.intro c3 (And.intro c4 c5)))
 refine wc_cond (b := ((decide (100 < (e.fID.length : Int))) || ((decide (100 < (e.fTenant.length : Int))) || ((decide (100 < (e.fSource.length : Int))) || ((decide (100 < (e.fKey.length : Int))) || (decide (100 < (e.fCause.length : Int)))))))) rfl (fun c6 => ?_) (fun c6 => ?_)
 ·have h7 := cnd_t c6 h
  refine wc_sr (wv (r := rB false) (o_assign rfl) (wl_x (wc_ret (wk_then_ret ?_))))
  obtain rfl := some_e h7
  exact wk_ret (r_1 Tryd.results5 (rv_t rfl)) (sS sN) ⟨rfl, rfl⟩
 ·have h8 := cnd_f c6 h
  refine wc_skip (wk_x (wc_sr (wv (o_fieldAddr Tryd.underlying24 rfl Tryd.sizeOf22 rfl rfl) (wv (o_load (i := 0) Tryd.isAgg22 rfl rfl rfl) ?_))))
  obtain ⟨r9, e11, h10⟩ := obn_e h8
  refine wc0 Tryd.call11 (evBody_w F e.fBody r9 e11) rfl (wa rfl (wl_x (wc_ret ?_)))
  obtain rfl := some_e h10
  exact wk_ret (r_1 Tryd.results5 (rv_t rfl)) (sS sN) ⟨rfl, rfl⟩

theorem evAwake_w (F : Nat)  (r : Bool) (h : evAwake F = some r) : Fn Tryd.prog GE 6 [] [] (fun R H => R = rB r ∧ H = []) := by
 refine enter (n := 76) Tryd.func6 rfl Tryd.ntmps6 rfl (fun w Z => ?_)
 refine wc_as (l' := []) (H' := []) rfl rfl ?_
 unfold evAwake at h
 refine wc_sr (wv (r := rB false) (o_assign rfl) (wl_y ?_))
 obtain ⟨r1, e3, h2⟩ := obn_e h
 refine wc0 Tryd.call14 (evExample_w r1 e3) rfl ?_
 obtain ⟨r4, e6, h5⟩ := obn_e h2
 refine wc0 Tryd.call7 (eEncode_w F r1 r4 e6) rfl (wm rfl (wv (o_extract rfl rfl) (wv (o_extract rfl rfl) (wa rfl (wa rfl (wl_y (wm rfl ?_)))))))
 obtain ⟨r7, e9, h8⟩ := obn_e h5
 refine wc0 Tryd.call8 (eDecode_w F r4.1 r7 e9) rfl (wm rfl (wv (o_extract rfl rfl) (wv (o_extract rfl rfl) (w_alloc (cs := [rS ([] : Str), rS ([] : Str), rS ([] : Str), rS ([] : Str), rI .i64 0, rS ([] : Str), rv (.slice none 0 0)]) Tryd.zeroValue24 rfl rfl (fun b10 => ?_)))))
 refine u_store_agg (i := 0) Tryd.sizeOf24 rfl rfl rfl (OneAll.c rfl) rfl rfl (cs' := [rS r7.1.fID, rS r7.1.fTenant, rS r7.1.fSource, rS r7.1.fKey, rI .i64 r7.1.fAt, rS r7.1.fCause, rSl 4 (List.map eTApiCell r7.1.fBody)]) rfl (H' := [.blk b10 (eTApiEvent r7.1) 24]) rfl (wa rfl (wl_y ?_))
 obtain ⟨r11, e13, h12⟩ := obn_e h8
 refine wc0 Tryd.call14 (evExample_w r11 e13) rfl ?_
 obtain ⟨r14, e16, h15⟩ := obn_e h12
 refine wc0 Tryd.call14 (evExample_w r14 e16) rfl (wv (r := rSl 4 (List.map eTApiCell r14.fBody)) (o_field Tryd.underlying24 rfl Tryd.isAgg22 rfl rfl) ?_)
 obtain ⟨r17, e19, h18⟩ := obn_e h15
 refine wc0 Tryd.call12 (eChild_w F r11 0 ([117] : Str) r14.fBody 6 r17 e19) rfl (wm rfl (wv (o_extract rfl rfl) (wv (o_extract rfl rfl) (w_alloc (cs := [rS ([] : Str), rS ([] : Str), rS ([] : Str), rS ([] : Str), rI .i64 0, rS ([] : Str), rv (.slice none 0 0)]) Tryd.zeroValue24 rfl rfl (fun b20 => ?_)))))
 refine u_store_agg (i := 0) Tryd.sizeOf24 rfl rfl rfl (OneAll.c rfl) rfl rfl (cs' := [rS r17.1.fID, rS r17.1.fTenant, rS r17.1.fSource, rS r17.1.fKey, rI .i64 r17.1.fAt, rS r17.1.fCause, rSl 4 (List.map eTApiCell r17.1.fBody)]) rfl (H' := [.blk b20 (eTApiEvent r17.1) 24, .blk b10 (eTApiEvent r7.1) 24]) rfl (wa rfl (wl_y ?_))
 obtain ⟨r21, e23, h22⟩ := obn_e h18
 refine wc0 Tryd.call13 (eLineage_w F ([97, 46, 48, 46, 49, 50] : Str) r21 e23) rfl (wa rfl (wl_y ?_))
 obtain ⟨r24, e26, h25⟩ := obn_e h22
 refine wc0 Tryd.call14 (evExample_w r24 e26) rfl (w_alloc (cs := [rS ([] : Str), rS ([] : Str), rS ([] : Str), rS ([] : Str), rI .i64 0, rS ([] : Str), rv (.slice none 0 0)]) Tryd.zeroValue24 rfl rfl (fun b27 => ?_))
 refine u_store_agg (i := 0) Tryd.sizeOf24 rfl rfl rfl (OneAll.c rfl) rfl rfl (cs' := [rS r24.fID, rS r24.fTenant, rS r24.fSource, rS r24.fKey, rI .i64 r24.fAt, rS r24.fCause, rSl 4 (List.map eTApiCell r24.fBody)]) rfl (H' := [.blk b27 (eTApiEvent r24) 24, .blk b20 (eTApiEvent r17.1) 24, .blk b10 (eTApiEvent r7.1) 24]) rfl (wl_y (wv (o_fieldAddr Tryd.underlying24 rfl Tryd.sizeOf3 rfl rfl) (u_store (i := 0) Tryd.sizeOf3 rfl rfl (one_c rfl) rfl rfl (cs' := [rS r24.fID, rS r24.fTenant, rS r24.fSource, rS r24.fKey, rI .i64 (-1), rS r24.fCause, rSl 4 (List.map eTApiCell r24.fBody)]) rfl (H' := [.blk b27 [rS r24.fID, rS r24.fTenant, rS r24.fSource, rS r24.fKey, rI .i64 (-1), rS r24.fCause, rSl 4 (List.map eTApiCell r24.fBody)] 24, .blk b20 (eTApiEvent r17.1) 24, .blk b10 (eTApiEvent r7.1) 24]) rfl (wl_x (wc_seq ?_)))))
 obtain ⟨g28, h29⟩ := chk_e h25
 obtain ⟨g30, h31⟩ := chk_e h29
 obtain ⟨r32, e34, h33⟩ := obn_e h31
 obtain ⟨r35, e37, h36⟩ := obn_e h33
 obtain ⟨g38, h39⟩ := chk_e h36
 obtain ⟨g40, h41⟩ := chk_e h39
 obtain ⟨g42, h43⟩ := chk_e h41
 obtain ⟨g44, h45⟩ := chk_e h43
 obtain ⟨g46, h47⟩ := chk_e h45
 obtain ⟨g48, h49⟩ := chk_e h47
 obtain ⟨g50, h51⟩ := chk_e h49
 obtain ⟨r52, e54, h53⟩ := obn_e h51
 obtain ⟨g55, h56⟩ := chk_e h53
 obtain ⟨r57, e59, h58⟩ := obn_e h56
 obtain ⟨r60, e62, h61⟩ := obn_e h58
 refine wc_rdq [2, 3, 4, 5, 6, 7, 8] [⟨[], rI .i64 r4.2, 0⟩, ⟨[0], rB (decide (r4.2 = 0)), 0⟩, ⟨[1], rB (decide (r4.2 = 0)), 0⟩, ⟨[2], rI .i64 r7.2, 0⟩, ⟨[3, 2], rB (decide (r7.2 = 0)), 0⟩, ⟨[2, 4], rB (decide (r7.2 = 0)), 0⟩, ⟨[5], rB (decide (r7.2 = 0)), 0⟩, ⟨[6], rAgg (eTApiEvent r7.1), 1⟩, ⟨[6], rAgg (eTApiEvent r32), 0⟩, ⟨[7, 8, 6], rB r35, 0⟩, ⟨[6, 9], rB r35, 0⟩, ⟨[10], rB r35, 0⟩, ⟨[11], rI .i64 r17.2, 0⟩, ⟨[12, 11], rB (decide (r17.2 = 0)), 0⟩, ⟨[11, 13], rB (decide (r17.2 = 0)), 0⟩, ⟨[14], rB (decide (r17.2 = 0)), 0⟩, ⟨[15], rv (.pointer (some ⟨b20, 0, none⟩)), 0⟩, ⟨[16, 15], rS r17.1.fID, 1⟩, ⟨[17, 15], rB (decide (r17.1.fID = ([101, 49, 46, 48] : Str))), 0⟩, ⟨[15, 18], rB (decide (r17.1.fID = ([101, 49, 46, 48] : Str))), 0⟩, ⟨[19], rB (decide (r17.1.fID = ([101, 49, 46, 48] : Str))), 0⟩, ⟨[20], rv (.pointer (some ⟨b20, 5, none⟩)), 0⟩, ⟨[21, 20], rS r17.1.fCause, 1⟩, ⟨[22, 20], rB (decide (r17.1.fCause = ([101, 49] : Str))), 0⟩, ⟨[20, 23], rB (decide (r17.1.fCause = ([101, 49] : Str))), 0⟩, ⟨[24], rB (decide (r17.1.fCause = ([101, 49] : Str))), 0⟩, ⟨[25], rSl 1 (List.map eS r21), 0⟩, ⟨[26, 25], rI .i64 (r21.length : Int), 0⟩, ⟨[27, 25], rB (decide ((r21.length : Int) = 3)), 0⟩, ⟨[25, 28], rB (decide ((r21.length : Int) = 3)), 0⟩, ⟨[29], rB (decide ((r21.length : Int) = 3)), 0⟩, ⟨[30], rSl 1 (List.map eS r21), 0⟩, ⟨[31, 30], rAt [rS (at' r21 2)], 0⟩, ⟨[32, 30], rS (at' r21 2), 0⟩, ⟨[33, 30], rB (decide ((at' r21 2) = ([97] : Str))), 0⟩, ⟨[30, 34], rB (decide ((at' r21 2) = ([97] : Str))), 0⟩, ⟨[35], rB (decide ((at' r21 2) = ([97] : Str))), 0⟩, ⟨[36], rAgg [rS r24.fID, rS r24.fTenant, rS r24.fSource, rS r24.fKey, rI .i64 (-1), rS r24.fCause, rSl 4 (List.map eTApiCell r24.fBody)], 1⟩, ⟨[37, 36], rI .i64 r52, 0⟩, ⟨[38, 36], rB (decide (r52 = 2)), 0⟩, ⟨[36, 39], rB (decide (r52 = 2)), 0⟩, ⟨[40], rB (decide (r52 = 2)), 0⟩, ⟨[41], rAgg [rS r24.fID, rS r24.fTenant, rS r24.fSource, rS r24.fKey, rI .i64 (-1), rS r24.fCause, rSl 4 (List.map eTApiCell r24.fBody)], 1⟩, ⟨[41], rAgg (eTApiEvent r57), 0⟩, ⟨[42, 43, 41], rI .i64 r60, 0⟩, ⟨[44, 41], rB (decide (r60 = (-1))), 0⟩, ⟨[41, 45], rB (decide (r60 = (-1))), 0⟩, ⟨[46], rB (decide (r60 = (-1))), 0⟩] [0] ?_ ?_
 ·refine oq (o_move rfl) (oq (o_eq rfl rfl) (oq (o_move rfl) (on g28 (oq (o_move rfl) (on g28 (oq (o_eq rfl rfl) (oq (o_pick_t rfl g28 rfl) (oq (o_move rfl) (on g30 (of (o_load_agg (i := 2) Tryd.isAgg24 Tryd.sizeOf24 rfl rfl rfl rfl) (obl_q rfl (fun H => ok_on (b := decide (r7.2 = 0)) rfl rfl g30 (ok_c0 Tryd.call14 (evExample_w r32 e34) rfl)) ?_)))))))))))
  refine obl_q rfl (fun H => ok_on (b := decide (r7.2 = 0)) rfl rfl g30 (ok_c0 Tryd.call9 (eSame_w F r7.1 r32 r35 e37) rfl)) ?_
  refine oq (o_pick_t rfl g30 rfl) (oq (o_move rfl) (on g38 (oq (o_move rfl) (on g38 (oq (o_eq rfl rfl) (oq (o_pick_t rfl g38 rfl) (oq (o_move rfl) (on g40 (oq (o_fieldAddr Tryd.underlying24 rfl Tryd.sizeOf9 rfl rfl) (on g40 (of (o_load (i := 1) Tryd.isAgg9 rfl rfl rfl) (on g40 (oq (o_seq rfl rfl) (oq (o_pick_t rfl g40 rfl) (oq (o_move rfl) (on g42 (oq (o_fieldAddr Tryd.underlying24 rfl Tryd.sizeOf9 rfl rfl) (on g42 (of (o_load (i := 1) Tryd.isAgg9 rfl rfl rfl) (on g42 (oq (o_seq rfl rfl) (oq (o_pick_t rfl g42 rfl) (oq (o_move rfl) ?_)))))))))))))))))))))))
  refine on g44 (oq (o_move rfl) (on g44 (oq (o_len_zt (ys := r21) (enc := eS) Tryd.underlying37 rfl) (on g44 (oq (o_eq rfl rfl) (oq (o_pick_t rfl g44 rfl) (oq (o_move rfl) (on g46 (oq (o_move rfl) (on g46 (oq (o_ix_z (enc := eS) (ys := r21) Tryd.underlying37 Tryd.sizeOf9 rfl rfl g48) (on g46 (oq (o_load_z Tryd.isAgg9 rfl rfl) (on g46 (oq (o_seq rfl rfl) (oq (o_pick_t rfl g46 rfl) (oq (o_move rfl) (on g50 (of (o_load_agg (i := 0) Tryd.isAgg24 Tryd.sizeOf24 rfl rfl rfl rfl) (obl_q rfl (fun H => ok_on (b := decide ((at' r21 2) = ([97] : Str))) rfl rfl g50 (ok_c0 Tryd.call10 (eCheck_w F (TApiEvent.mk r24.fID r24.fTenant r24.fSource r24.fKey (-1) r24.fCause r24.fBody) r52 e54) rfl)) ?_))))))))))))))))))))
  refine on g50 (oq (o_eq rfl rfl) (oq (o_pick_t rfl g50 rfl) (oq (o_move rfl) (on g55 (of (o_load_agg (i := 0) Tryd.isAgg24 Tryd.sizeOf24 rfl rfl rfl rfl) (obl_q rfl (fun H => ok_on (b := decide (r52 = 2)) rfl rfl g55 (ok_c0 Tryd.call14 (evExample_w r57 e59) rfl)) ?_))))))
  refine obl_q rfl (fun H => ok_on (b := decide (r52 = 2)) rfl rfl g55 (ok_c0 Tryd.call15 (eCmp_w (TApiEvent.mk r24.fID r24.fTenant r24.fSource r24.fKey (-1) r24.fCause r24.fBody) r57 r60 e62) rfl)) ?_
  refine on g55 (oq (o_eq rfl rfl) (oq (o_pick_t rfl g55 rfl) (oq (o_assign rfl) ?_)))
  exact obl_e
 refine wk_x (wc_ret ?_)
 obtain rfl := some_e h61
 exact wk_ret (r_1 Tryd.results6 (rv_t rfl)) (sS (sS (sS sN))) ⟨rfl, rfl⟩

end Go.Proofs.YtpmiamphppcfeaaDoor.Q

/-
 What functions compute, with checks: plain definitions, printed by a small program of ours (gq.py). No program in sight.
-/
namespace Go.Proofs.YtpmiamphppcfeaaDoor
open Go
set_option linter.unusedVariables false
def lEvDescends_b1 (r36 : (List Str)) (r39 : (List Str)) (x73 : Int) : Option (Stp (Int) (Out (Bool) (Unit))) :=
 cnd (decide (x73 < (r39.length : Int))) (chk (inK .i64 (x73 + 1)) <| chk (inR (x73 + 1) (r36.length : Int)) <| chk (inR x73 (r39.length : Int)) <| cnd (!decide ((at' r36 (x73 + 1)) = (at' r39 x73))) (some (.out (.ret false))) (some (.next (x73 + 1)))) (some (.out (.go ())))

def lEvDescends_k1 (F : Nat) (e : TApiEvent) (n : Int) (m : Int) (source : Str) (v : (List TApiCell)) (at_ : Int) (r14 : TApiEvent × Int) : Option (Bool) :=
 obn (eChild F e m source v at_) fun r111 => chk (imp (!decide (r111.2 = 0)) ((evAwake F).isSome)) <| chk (imp (!(!decide (r111.2 = 0))) (imp ((decide (r111.1.fID = r14.1.fID)) == (decide (m = n))) ((evAwake F).isSome))) <| some (bif !decide (r111.2 = 0) then (ov (evAwake F)) else (((decide (r111.1.fID = r14.1.fID)) == (decide (m = n))) && (ov (evAwake F))))

def lEvDescends (F : Nat) (e : TApiEvent) (n : Int) (m : Int) (source : Str) (v : (List TApiCell)) (at_ : Int) : Option (Bool) :=
 chk ((evSmall F e).isSome) <| chk (imp (!(!(ov (evSmall F e)))) (imp (!(decide (100 < (source.length : Int)))) ((evBody F v).isSome))) <| cnd (((!(ov (evSmall F e))) || ((decide (100 < (source.length : Int))) || (!(ov (evBody F v)))))) (obn (evAwake F) fun r10 => some r10) (obn (eChild F e n source v at_) fun r14 => cnd (!decide (r14.2 = 0)) (chk ((eSame F r14.1 (TApiEvent.mk ([] : Str) ([] : Str) ([] : Str) ([] : Str) 0 ([] : Str) ([] : List TApiCell))).isSome) <| chk (imp ((ov (eSame F r14.1 (TApiEvent.mk ([] : Str) ([] : Str) ([] : Str) ([] : Str) 0 ([] : Str) ([] : List TApiCell))))) ((evAwake F).isSome)) <| some ((ov (eSame F r14.1 (TApiEvent.mk ([] : Str) ([] : Str) ([] : Str) ([] : Str) 0 ([] : Str) ([] : List TApiCell)))) && (ov (evAwake F)))) (chk ((eCheck F r14.1).isSome) <| cnd (((!decide ((ov (eCheck F r14.1)) = 0)) || ((!decide (r14.1.fTenant = e.fTenant)) || ((!decide (r14.1.fKey = e.fKey)) || ((!decide (r14.1.fCause = e.fID)) || ((!decide (r14.1.fSource = source)) || (!decide (r14.1.fAt = at_)))))))) (some false) (obn (eLineage F r14.1.fID) fun r36 => obn (eLineage F e.fID) fun r39 => chk (inK .i64 ((r39.length : Int) + 1)) <| chk (imp (!(!decide ((r36.length : Int) = ((r39.length : Int) + 1)))) (inR 0 (r36.length : Int))) <| cnd (((!decide ((r36.length : Int) = ((r39.length : Int) + 1))) || (!decide ((at' r36 0) = r14.1.fID)))) (some false) (obn (lop (fun σ => lEvDescends_b1 r36 r39 σ) F 0) (oute fun ν => lEvDescends_k1 F e n m source v at_ r14 )))))

end Go.Proofs.YtpmiamphppcfeaaDoor

/-
  Walks, printed by a small program of ours (gq.py).
-/
namespace Go.Proofs.YtpmiamphppcfeaaDoor.Q
open Go Go.RowKit
set_option linter.unusedVariables false
set_option linter.unusedSimpArgs false
set_option maxRecDepth 100000
set_option maxHeartbeats 4000000
theorem lEvDescends_w (F : Nat) (e : TApiEvent) (n : Int) (m : Int) (source : Str) (v : (List TApiCell)) (at_ : Int) (r : Bool) (h : lEvDescends F e n m source v at_ = some r) : Fn Tryd.prog GE 4 [rAgg (eTApiEvent e), rI .i64 n, rI .i64 m, rS source, rSl 4 (List.map eTApiCell v), rI .i64 at_] [] (fun R H => R = rB r ∧ H = []) := by
 refine enter (n := 148) Tryd.func4 rfl Tryd.ntmps4 rfl (fun w Z => ?_)
 refine wc_as (l' := [(0, rAgg (eTApiEvent e)), (1, rI .i64 n), (2, rI .i64 m), (3, rS source), (4, rSl 4 (List.map eTApiCell v)), (5, rI .i64 at_)]) (H' := []) rfl rfl ?_
 unfold lEvDescends at h
 refine wc_sr (w_box_agg rfl rfl (fun b1 => ?_))
 refine wv (r := rB false) (o_assign rfl) (wl_x (wc_seq ?_))
 obtain ⟨g2, h3⟩ := chk_e h
 obtain ⟨g4, h5⟩ := chk_e h3
 refine wc_seq_mid [(1, rI .i64 n), (2, rI .i64 m), (3, rS source), (4, rSl 4 (List.map eTApiCell v)), (5, rI .i64 at_), (6, rv (.pointer (some ⟨b1, 0, none⟩))), (32, rB ((!(ov (evSmall F e))) || ((decide (100 < (source.length : Int))) || (!(ov (evBody F v))))))] [.blk b1 (eTApiEvent e) 24] ?_ ?_
 ·refine wc_region (wv (o_load_agg (i := 0) Tryd.isAgg24 Tryd.sizeOf24 rfl rfl rfl rfl) (wc0 Tryd.call5 (evSmall_w F e (ov (evSmall F e)) (ov_e g2)) rfl (wv (o_not rfl) (wm rfl (bsplit (!(ov (evSmall F e))) (fun c6 => ?_) (fun c6 => ?_))))))
  ·refine wf c6 (wf c6 (wf c6 (wv (r := rB true) (o_pick_t (b := !(ov (evSmall F e))) rfl c6 rfl) (wm rfl (wl_off (b := true) rfl rfl rfl rfl (wl_off (b := true) rfl rfl rfl rfl (wl_off (b := true) rfl rfl rfl rfl (wv (r := rB true) (o_pick_t (b := true) rfl rfl rfl) (wl_nil ?_)))))))))
   exact wtc c6
  ·refine wo c6 (wm rfl (wo c6 (wv (o_len_s Tryd.underlying9 rfl) (wo c6 (wv (o_gt rfl rfl) (wpf rfl c6 rfl (wm rfl (bsplit (decide (100 < (source.length : Int))) (fun c7 => ?_) (fun c7 => ?_)))))))))
   ·refine wf c7 (wf c7 (wf c7 (wv (r := rB true) (o_pick_t (b := decide (100 < (source.length : Int))) rfl c7 rfl) (wl_nil ?_))))
    exact wtc (And.intro c6 c7)
   ·refine wo c7 (wm rfl (wo c7 (wc0 Tryd.call11 (evBody_w F v (ov (evBody F v)) (ov_e (imp_f (imp_f g4 c6) c7))) rfl (wo c7 (wv (o_not rfl) (wpf rfl c7 rfl (wl_nil ?_)))))))
    exact wtc (And.intro c6 c7)
 refine wc_cond (b := ((!(ov (evSmall F e))) || ((decide (100 < (source.length : Int))) || (!(ov (evBody F v)))))) rfl (fun c8 => ?_) (fun c8 => ?_)
 ·have h9 := cnd_t c8 h5
  refine wc_sr ?_
  obtain ⟨r10, e12, h11⟩ := obn_e h9
  refine wc0 Tryd.call6 (evAwake_w F r10 e12) rfl (wa rfl (wl_x (wc_ret (wk_then_ret ?_))))
  obtain rfl := some_e h11
  exact wk_ret (r_1 Tryd.results4 (rv_t rfl)) (sS sN) ⟨rfl, rfl⟩
 ·have h13 := cnd_f c8 h5
  refine wc_skip (wk_x (wc_sr (wv (o_load_agg (i := 0) Tryd.isAgg24 Tryd.sizeOf24 rfl rfl rfl rfl) (wm rfl (wm rfl (wm rfl (wm rfl ?_)))))))
  obtain ⟨r14, e16, h15⟩ := obn_e h13
  refine wc0 Tryd.call12 (eChild_w F e n source v at_ r14 e16) rfl (wm rfl (wv (o_extract rfl rfl) (wv (o_extract rfl rfl) (w_alloc (cs := [rS ([] : Str), rS ([] : Str), rS ([] : Str), rS ([] : Str), rI .i64 0, rS ([] : Str), rv (.slice none 0 0)]) Tryd.zeroValue24 rfl rfl (fun b17 => ?_)))))
  refine u_store_agg (i := 0) Tryd.sizeOf24 rfl rfl rfl (OneAll.c rfl) rfl rfl (cs' := [rS r14.1.fID, rS r14.1.fTenant, rS r14.1.fSource, rS r14.1.fKey, rI .i64 r14.1.fAt, rS r14.1.fCause, rSl 4 (List.map eTApiCell r14.1.fBody)]) rfl (H' := [.blk b17 (eTApiEvent r14.1) 24, .blk b1 (eTApiEvent e) 24]) rfl (wa rfl (wl_x (wc_seq (wc_sr (wm rfl (wv (o_ne rfl rfl) (wl_x (wc_cond (b := !decide (r14.2 = 0)) rfl (fun c18 => ?_) (fun c18 => ?_)))))))))
  ·have h19 := cnd_t c18 h15
   obtain ⟨g20, h21⟩ := chk_e h19
   obtain ⟨g22, h23⟩ := chk_e h21
   refine wc_seq_mid [(12, rB ((ov (eSame F r14.1 (TApiEvent.mk ([] : Str) ([] : Str) ([] : Str) ([] : Str) 0 ([] : Str) ([] : List TApiCell)))) && (ov (evAwake F))))] [] ?_ ?_
   ·refine wc_region (wv (o_load_agg (i := 0) Tryd.isAgg24 Tryd.sizeOf24 rfl rfl rfl rfl) (wv (r := rAgg [rS ([] : Str), rS ([] : Str), rS ([] : Str), rS ([] : Str), rI .i64 0, rS ([] : Str), rv (.slice none 0 0)]) (o_build24_ ) (WL.up (d := 46) (r := rAgg [rS ([] : Str), rS ([] : Str), rS ([] : Str), rS ([] : Str), rI .i64 0, rS ([] : Str), rSl 4 (List.map eTApiCell ([] : List TApiCell))]) rfl (Up.agg ⟨Up.refl _, Up.refl _, Up.refl _, Up.refl _, Up.refl _, Up.refl _, Up.le (Rle.nil _), trivial⟩) (wc0 Tryd.call9 (eSame_w F r14.1 (TApiEvent.mk ([] : Str) ([] : Str) ([] : Str) ([] : Str) 0 ([] : Str) ([] : List TApiCell)) (ov (eSame F r14.1 (TApiEvent.mk ([] : Str) ([] : Str) ([] : Str) ([] : Str) 0 ([] : Str) ([] : List TApiCell)))) (ov_e g20)) rfl (wm rfl (bsplit ((ov (eSame F r14.1 (TApiEvent.mk ([] : Str) ([] : Str) ([] : Str) ([] : Str) 0 ([] : Str) ([] : List TApiCell))))) (fun c24 => ?_) (fun c24 => ?_)))))))
    ·refine wo c24 (wc0 Tryd.call6 (evAwake_w F (ov (evAwake F)) (ov_e (imp_t g22 c24))) rfl (wpt rfl c24 rfl (wa rfl (wl_nil ?_))))
     exact wtc c24
    ·refine wf c24 (wv (r := rB false) (o_pick_f (b := (ov (eSame F r14.1 (TApiEvent.mk ([] : Str) ([] : Str) ([] : Str) ([] : Str) 0 ([] : Str) ([] : List TApiCell))))) rfl c24 rfl) (wa rfl (wl_nil ?_)))
     exact wtc c24
   refine wc_ret (wk_then_ret ?_)
   obtain rfl := some_e h23
   exact wk_ret (r_1 Tryd.results4 (rv_t rfl)) sN ⟨rfl, rfl⟩
  ·have h25 := cnd_f c18 h15
   refine wc_skip (wk_x (wc_seq ?_))
   obtain ⟨g26, h27⟩ := chk_e h25
   refine wc_seq_mid [(1, rI .i64 n), (2, rI .i64 m), (3, rS source), (4, rSl 4 (List.map eTApiCell v)), (5, rI .i64 at_), (6, rv (.pointer (some ⟨b1, 0, none⟩))), (13, rv (.pointer (some ⟨b17, 0, none⟩))), (86, rB ((!decide ((ov (eCheck F r14.1)) = 0)) || ((!decide (r14.1.fTenant = e.fTenant)) || ((!decide (r14.1.fKey = e.fKey)) || ((!decide (r14.1.fCause = e.fID)) || ((!decide (r14.1.fSource = source)) || (!decide (r14.1.fAt = at_))))))))] [.blk b17 (eTApiEvent r14.1) 24, .blk b1 (eTApiEvent e) 24] ?_ ?_
   ·refine wc_region (wv (o_load_agg (i := 0) Tryd.isAgg24 Tryd.sizeOf24 rfl rfl rfl rfl) (wc0 Tryd.call10 (eCheck_w F r14.1 (ov (eCheck F r14.1)) (ov_e g26)) rfl (wv (o_ne rfl rfl) (wm rfl (bsplit (!decide ((ov (eCheck F r14.1)) = 0)) (fun c28 => ?_) (fun c28 => ?_))))))
    ·refine wf c28 (wf c28 (wf c28 (wf c28 (wf c28 (wv (r := rB true) (o_pick_t (b := !decide ((ov (eCheck F r14.1)) = 0)) rfl c28 rfl) (wm rfl (wl_off (b := true) rfl rfl rfl rfl (wl_off (b := true) rfl rfl rfl rfl (wl_off (b := true) rfl rfl rfl rfl (wl_off (b := true) rfl rfl rfl rfl (wl_off (b := true) rfl rfl rfl rfl (wv (r := rB true) (o_pick_t (b := true) rfl rfl rfl) (wm rfl (wl_off (b := true) rfl rfl rfl rfl (wl_off (b := true) rfl rfl rfl rfl (wl_off (b := true) rfl rfl rfl rfl (wl_off (b := true) rfl rfl rfl rfl (wl_off (b := true) rfl rfl rfl rfl (wv (r := rB true) (o_pick_t (b := true) rfl rfl rfl) (wm rfl (wl_off (b := true) rfl rfl rfl rfl (wl_off (b := true) rfl rfl rfl rfl (wl_off (b := true) rfl rfl rfl rfl ?_)))))))))))))))))))))))
     refine wl_off (b := true) rfl rfl rfl rfl (wv (r := rB true) (o_pick_t (b := true) rfl rfl rfl) (wm rfl (wl_off (b := true) rfl rfl rfl rfl (wl_off (b := true) rfl rfl rfl rfl (wl_off (b := true) rfl rfl rfl rfl (wl_off (b := true) rfl rfl rfl rfl (wv (r := rB true) (o_pick_t (b := true) rfl rfl rfl) (wl_nil ?_))))))))
     exact wtc c28
    ·refine wo c28 (wv (o_fieldAddr Tryd.underlying24 rfl Tryd.sizeOf9 rfl rfl) (wo c28 (wv (o_load (i := 0) Tryd.isAgg9 rfl rfl rfl) (wo c28 (wv (o_fieldAddr Tryd.underlying24 rfl Tryd.sizeOf9 rfl rfl) (wo c28 (wv (o_load (i := 1) Tryd.isAgg9 rfl rfl rfl) (wo c28 (wv (o_sne rfl rfl) (wpf rfl c28 rfl (wm rfl (bsplit (!decide (r14.1.fTenant = e.fTenant)) (fun c29 => ?_) (fun c29 => ?_)))))))))))))
     ·refine wf c29 (wf c29 (wf c29 (wf c29 (wf c29 (wv (r := rB true) (o_pick_t (b := !decide (r14.1.fTenant = e.fTenant)) rfl c29 rfl) (wm rfl (wl_off (b := true) rfl rfl rfl rfl (wl_off (b := true) rfl rfl rfl rfl (wl_off (b := true) rfl rfl rfl rfl (wl_off (b := true) rfl rfl rfl rfl (wl_off (b := true) rfl rfl rfl rfl (wv (r := rB true) (o_pick_t (b := true) rfl rfl rfl) (wm rfl (wl_off (b := true) rfl rfl rfl rfl (wl_off (b := true) rfl rfl rfl rfl (wl_off (b := true) rfl rfl rfl rfl (wl_off (b := true) rfl rfl rfl rfl (wv (r := rB true) (o_pick_t (b := true) rfl rfl rfl) (wm rfl (wl_off (b := true) rfl rfl rfl rfl (wl_off (b := true) rfl rfl rfl rfl (wl_off (b := true) rfl rfl rfl rfl (wl_off (b := true) rfl rfl rfl rfl ?_)))))))))))))))))))))))
      refine wv (r := rB true) (o_pick_t (b := true) rfl rfl rfl) (wl_nil ?_)
      exact wtc (And.intro c28 c29)
     ·refine wo c29 (wv (o_fieldAddr Tryd.underlying24 rfl Tryd.sizeOf9 rfl rfl) (wo c29 (wv (o_load (i := 0) Tryd.isAgg9 rfl rfl rfl) (wo c29 (wv (o_fieldAddr Tryd.underlying24 rfl Tryd.sizeOf9 rfl rfl) (wo c29 (wv (o_load (i := 1) Tryd.isAgg9 rfl rfl rfl) (wo c29 (wv (o_sne rfl rfl) (wpf rfl c29 rfl (wm rfl (bsplit (!decide (r14.1.fKey = e.fKey)) (fun c30 => ?_) (fun c30 => ?_)))))))))))))
      ·refine wf c30 (wf c30 (wf c30 (wf c30 (wf c30 (wv (r := rB true) (o_pick_t (b := !decide (r14.1.fKey = e.fKey)) rfl c30 rfl) (wm rfl (wl_off (b := true) rfl rfl rfl rfl (wl_off (b := true) rfl rfl rfl rfl (wl_off (b := true) rfl rfl rfl rfl (wl_off (b := true) rfl rfl rfl rfl (wv (r := rB true) (o_pick_t (b := true) rfl rfl rfl) (wm rfl (wl_off (b := true) rfl rfl rfl rfl (wl_off (b := true) rfl rfl rfl rfl (wl_off (b := true) rfl rfl rfl rfl (wl_off (b := true) rfl rfl rfl rfl (wv (r := rB true) (o_pick_t (b := true) rfl rfl rfl) (wl_nil ?_))))))))))))))))))
       exact wtc (And.intro c28 (And.intro c29 c30))
      ·refine wo c30 (wv (o_fieldAddr Tryd.underlying24 rfl Tryd.sizeOf9 rfl rfl) (wo c30 (wv (o_load (i := 0) Tryd.isAgg9 rfl rfl rfl) (wo c30 (wv (o_fieldAddr Tryd.underlying24 rfl Tryd.sizeOf9 rfl rfl) (wo c30 (wv (o_load (i := 1) Tryd.isAgg9 rfl rfl rfl) (wo c30 (wv (o_sne rfl rfl) (wpf rfl c30 rfl (wm rfl (bsplit (!decide (r14.1.fCause = e.fID)) (fun c31 => ?_) (fun c31 => ?_)))))))))))))
       ·refine wf c31 (wf c31 (wf c31 (wf c31 (wv (r := rB true) (o_pick_t (b := !decide (r14.1.fCause = e.fID)) rfl c31 rfl) (wm rfl (wl_off (b := true) rfl rfl rfl rfl (wl_off (b := true) rfl rfl rfl rfl (wl_off (b := true) rfl rfl rfl rfl (wl_off (b := true) rfl rfl rfl rfl (wv (r := rB true) (o_pick_t (b := true) rfl rfl rfl) (wl_nil ?_)))))))))))
        exact wtc (And.intro c28 (And.intro c29 (And.intro c30 c31)))
       ·refine wo c31 (wv (o_fieldAddr Tryd.underlying24 rfl Tryd.sizeOf9 rfl rfl) (wo c31 (wv (o_load (i := 0) Tryd.isAgg9 rfl rfl rfl) (wo c31 (wm rfl (wo c31 (wv (o_sne rfl rfl) (wpf rfl c31 rfl (wm rfl (bsplit (!decide (r14.1.fSource = source)) (fun c32 => ?_) (fun c32 => ?_)))))))))))
        ·refine wf c32 (wf c32 (wf c32 (wf c32 (wv (r := rB true) (o_pick_t (b := !decide (r14.1.fSource = source)) rfl c32 rfl) (wl_nil ?_)))))
         exact wtc (And.intro c28 (And.intro c29 (And.intro c30 (And.intro c31 c32))))
        ·refine wo c32 (wv (o_fieldAddr Tryd.underlying24 rfl Tryd.sizeOf3 rfl rfl) (wo c32 (wv (o_load (i := 0) Tryd.isAgg3 rfl rfl rfl) (wo c32 (wm rfl (wo c32 (wv (o_ne rfl rfl) (wpf rfl c32 rfl (wl_nil ?_)))))))))
         exact wtc (And.intro c28 (And.intro c29 (And.intro c30 (And.intro c31 c32))))
   refine wc_cond (b := ((!decide ((ov (eCheck F r14.1)) = 0)) || ((!decide (r14.1.fTenant = e.fTenant)) || ((!decide (r14.1.fKey = e.fKey)) || ((!decide (r14.1.fCause = e.fID)) || ((!decide (r14.1.fSource = source)) || (!decide (r14.1.fAt = at_)))))))) rfl (fun c33 => ?_) (fun c33 => ?_)
   ·have h34 := cnd_t c33 h27
    refine wc_sr (wv (r := rB false) (o_assign rfl) (wl_x (wc_ret (wk_then_ret ?_))))
    obtain rfl := some_e h34
    exact wk_ret (r_1 Tryd.results4 (rv_t rfl)) (sS (sS sN)) ⟨rfl, rfl⟩
   ·have h35 := cnd_f c33 h27
    refine wc_skip (wk_x (wc_seq ?_))
    obtain ⟨r36, e38, h37⟩ := obn_e h35
    refine wc_rdak 5 [1, 2, 3, 4, 5, 6, 13] [⟨[], rv (.pointer (some ⟨b17, 0, none⟩)), none, none, none⟩, ⟨[0], rS r14.1.fID, none, none, none⟩, ⟨[1], rSl 1 (List.map eS r36), none, none, none⟩, ⟨[], rv (.pointer (some ⟨b1, 0, none⟩)), none, none, none⟩, ⟨[3], rS e.fID, none, none, none⟩] ?_ (fun β => ?_)
    ·refine oaq (o_fieldAddr Tryd.underlying24 rfl Tryd.sizeOf9 rfl rfl) (oaf (o_load (i := 0) Tryd.isAgg9 rfl rfl rfl) (oac (ok_c0 Tryd.call13 (eLineage_w F r14.1.fID r36 e38) rfl) (oaq (o_fieldAddr Tryd.underlying24 rfl Tryd.sizeOf9 rfl rfl) (oaf (o_load (i := 1) Tryd.isAgg9 rfl rfl rfl) ?_))))
     exact oae
    refine wl_kza (H1 := [.blk b17 (eTApiEvent r14.1) 24, .blk b1 (eTApiEvent e) 24]) [87, 88, 89, 90, 91, 1, 2, 3, 4, 5, 6, 13] ?_
    obtain ⟨r39, e41, h40⟩ := obn_e h37
    refine wc0 Tryd.call13 (eLineage_w F e.fID r39 e41) rfl (wa rfl (wa rfl (wl_x (wc_seq ?_))))
    obtain ⟨g42, h43⟩ := chk_e h40
    obtain ⟨g44, h45⟩ := chk_e h43
    refine wc_seq_mid [(1, rI .i64 n), (2, rI .i64 m), (3, rS source), (4, rSl 4 (List.map eTApiCell v)), (5, rI .i64 at_), (6, rv (.pointer (some ⟨b1, 0, none⟩))), (13, rv (.pointer (some ⟨b17, 0, none⟩))), (15, rSl 1 (List.map eS r36)), (16, rSl 1 (List.map eS r39)), (106, rB ((!decide ((r36.length : Int) = ((r39.length : Int) + 1))) || (!decide ((at' r36 0) = r14.1.fID))))] [.blk b17 (eTApiEvent r14.1) 24, .blk b1 (eTApiEvent e) 24] ?_ ?_
    ·refine bsplit (!decide ((r36.length : Int) = ((r39.length : Int) + 1))) (fun c46 => ?_) (fun c46 => ?_)
     ·refine wc_rdq [1, 2, 3, 4, 5, 6, 13, 15, 16] [⟨[], rSl 1 (List.map eS r36), 0⟩, ⟨[0], rI .i64 (r36.length : Int), 0⟩, ⟨[], rSl 1 (List.map eS r39), 0⟩, ⟨[2], rI .i64 (r39.length : Int), 0⟩, ⟨[3], rI .i64 ((r39.length : Int) + 1), 0⟩, ⟨[1, 4], rB (!decide ((r36.length : Int) = ((r39.length : Int) + 1))), 0⟩, ⟨[5], rB (!decide ((r36.length : Int) = ((r39.length : Int) + 1))), 0⟩, ⟨[6], rv undef, 0⟩, ⟨[7, 6], rv undef, 0⟩, ⟨[8, 6], rv undef, 0⟩, ⟨[6], rv undef, 0⟩, ⟨[10, 6], rv undef, 0⟩, ⟨[9, 11, 6], rv undef, 0⟩, ⟨[6, 12], rB true, 0⟩] [106, 1, 2, 3, 4, 5, 6, 13, 15, 16] ?_ ?_
      ·refine oq (o_move rfl) (oq (o_len_zt (ys := r36) (enc := eS) Tryd.underlying37 rfl) (oq (o_move rfl) (oq (o_len_zt (ys := r39) (enc := eS) Tryd.underlying37 rfl) (oq (o_add rfl rfl g42) (oq (o_ne rfl rfl) (oq (o_move rfl) (oz c46 (oz c46 (oz c46 (oz c46 (oz c46 (oz c46 (oq (o_pick_t (b := !decide ((r36.length : Int) = ((r39.length : Int) + 1))) rfl c46 rfl) ?_)))))))))))))
       exact obl_e
      exact wtc c46
     ·refine wc_rdq [1, 2, 3, 4, 5, 6, 13, 15, 16] [⟨[], rSl 1 (List.map eS r36), 0⟩, ⟨[0], rI .i64 (r36.length : Int), 0⟩, ⟨[], rSl 1 (List.map eS r39), 0⟩, ⟨[2], rI .i64 (r39.length : Int), 0⟩, ⟨[3], rI .i64 ((r39.length : Int) + 1), 0⟩, ⟨[1, 4], rB (!decide ((r36.length : Int) = ((r39.length : Int) + 1))), 0⟩, ⟨[5], rB (!decide ((r36.length : Int) = ((r39.length : Int) + 1))), 0⟩, ⟨[6], rSl 1 (List.map eS r36), 0⟩, ⟨[7, 6], rAt [rS (at' r36 0)], 0⟩, ⟨[8, 6], rS (at' r36 0), 0⟩, ⟨[6], rv (.pointer (some ⟨b17, 0, none⟩)), 0⟩, ⟨[10, 6], rS r14.1.fID, 1⟩, ⟨[9, 11, 6], rB (!decide ((at' r36 0) = r14.1.fID)), 0⟩, ⟨[6, 12], rB (!decide ((at' r36 0) = r14.1.fID)), 0⟩] [106, 1, 2, 3, 4, 5, 6, 13, 15, 16] ?_ ?_
      ·refine oq (o_move rfl) (oq (o_len_zt (ys := r36) (enc := eS) Tryd.underlying37 rfl) (oq (o_move rfl) (oq (o_len_zt (ys := r39) (enc := eS) Tryd.underlying37 rfl) (oq (o_add rfl rfl g42) (oq (o_ne rfl rfl) (oq (o_move rfl) (on c46 (oq (o_move rfl) (on c46 (oq (o_ix_z (enc := eS) (ys := r36) Tryd.underlying37 Tryd.sizeOf9 rfl rfl (imp_f g44 c46)) (on c46 (oq (o_load_z Tryd.isAgg9 rfl rfl) (on c46 (oq (o_fieldAddr Tryd.underlying24 rfl Tryd.sizeOf9 rfl rfl) (on c46 (of (o_load (i := 0) Tryd.isAgg9 rfl rfl rfl) (on c46 (oq (o_sne rfl rfl) (oq (o_pick_f rfl c46 rfl) ?_)))))))))))))))))))
       exact obl_e
      exact wtc c46
    refine wc_cond (b := ((!decide ((r36.length : Int) = ((r39.length : Int) + 1))) || (!decide ((at' r36 0) = r14.1.fID)))) rfl (fun c47 => ?_) (fun c47 => ?_)
    ·have h48 := cnd_t c47 h45
     refine wc_sr (wv (r := rB false) (o_assign rfl) (wl_x (wc_ret (wk_then_ret ?_))))
     obtain rfl := some_e h48
     exact wk_ret (r_1 Tryd.results4 (rv_t rfl)) (sS (sS sN)) ⟨rfl, rfl⟩
    ·have h49 := cnd_f c47 h45
     refine wc_skip (wk_x (wc_seq (wc_sr (wm rfl (wv (o_len_zt (ys := r39) (enc := eS) Tryd.underlying37 rfl) (wv (r := rI .i64 0) (o_move rfl) (wl_x (wc_block ?_))))))))
     obtain ⟨o86, eo87, hK88⟩ := obn_e h49
     refine wc_loop2 (S := Nat × (Int) × (Unit)) (V := (Unit) × (Unit)) 0 (fun σ => lop (fun σ => lEvDescends_b1 r36 r39 σ) σ.1 σ.2.1 = some o86) (fun σ => [(1, rI .i64 n), (2, rI .i64 m), (3, rS source), (4, rSl 4 (List.map eTApiCell v)), (5, rI .i64 at_), (6, rv (.pointer (some ⟨b1, 0, none⟩))), (13, rv (.pointer (some ⟨b17, 0, none⟩))), (15, rSl 1 (List.map eS r36)), (16, rSl 1 (List.map eS r39)), (108, rI .i64 (r39.length : Int)), (109, rI .i64 σ.2.1)]) (fun σ => [.blk b17 (eTApiEvent r14.1) 24, .blk b1 (eTApiEvent e) 24]) (fun σ => σ.1) (F, 0, ()) eo87 (Sub.c rfl (Sub.c5 rfl rfl rfl rfl rfl (Sub.c5 rfl rfl rfl rfl rfl Sub.nil))) (sC (sC sN)) (fun σ => lEvDescends_k1 F e n m source v at_ r14  = some r) (fun σ => [(1, rI .i64 n), (2, rI .i64 m), (3, rS source), (4, rSl 4 (List.map eTApiCell v)), (5, rI .i64 at_), (6, rv (.pointer (some ⟨b1, 0, none⟩))), (13, rv (.pointer (some ⟨b17, 0, none⟩)))]) (fun σ => [.blk b17 (eTApiEvent r14.1) 24, .blk b1 (eTApiEvent e) 24]) ?_ ?_
     ·rintro ⟨n94, x73, ⟨⟩⟩ hi92
      refine wc_as (l' := [(1, rI .i64 n), (2, rI .i64 m), (3, rS source), (4, rSl 4 (List.map eTApiCell v)), (5, rI .i64 at_), (6, rv (.pointer (some ⟨b1, 0, none⟩))), (13, rv (.pointer (some ⟨b17, 0, none⟩))), (15, rSl 1 (List.map eS r36)), (16, rSl 1 (List.map eS r39)), (108, rI .i64 (r39.length : Int)), (109, rI .i64 x73)]) (H' := [.blk b17 (eTApiEvent r14.1) 24, .blk b1 (eTApiEvent e) 24]) rfl rfl ?_
      obtain ⟨m91, rfl, t89, h93, ht90⟩ := lop_e hi92
      replace h93 : lEvDescends_b1 r36 r39 x73 = some t89 := h93
      unfold lEvDescends_b1 at h93
      refine wc_sr (wv (o_lt rfl rfl) (wl_x (wc_seq (wc_cond (b := decide (x73 < (r39.length : Int))) rfl (fun c95 => ?_) (fun c95 => ?_)))))
      ·have h96 := cnd_t c95 h93
       refine wc_skip (wk_x (wc_seq (wc_block (wc_sr (wm rfl (wa rfl (wl_x (wc_seq ?_))))))))
       obtain ⟨g97, h98⟩ := chk_e h96
       obtain ⟨g99, h100⟩ := chk_e h98
       obtain ⟨g101, h102⟩ := chk_e h100
       refine wc_rdq [1, 2, 3, 4, 5, 6, 13, 15, 16, 17, 108, 109] [⟨[], rSl 1 (List.map eS r36), 0⟩, ⟨[], rI .i64 x73, 0⟩, ⟨[1], rI .i64 (x73 + 1), 0⟩, ⟨[0, 2], rAt [rS (at' r36 (x73 + 1))], 0⟩, ⟨[3], rS (at' r36 (x73 + 1)), 0⟩, ⟨[], rSl 1 (List.map eS r39), 0⟩, ⟨[], rI .i64 x73, 0⟩, ⟨[5, 6], rAt [rS (at' r39 x73)], 0⟩, ⟨[7], rS (at' r39 x73), 0⟩, ⟨[4, 8], rB (!decide ((at' r36 (x73 + 1)) = (at' r39 x73))), 0⟩] [112, 113, 114, 115, 116, 117, 118, 119, 120, 121, 1, 2, 3, 4, 5, 6, 13, 15, 16, 108, 109] ?_ ?_
       ·refine oq (o_move rfl) (oq (o_move rfl) (oq (o_add rfl rfl g97) (oq (o_ix_z (enc := eS) (ys := r36) Tryd.underlying37 Tryd.sizeOf9 rfl rfl g99) (oq (o_load_z Tryd.isAgg9 rfl rfl) (oq (o_move rfl) (oq (o_move rfl) (oq (o_ix_z (enc := eS) (ys := r39) Tryd.underlying37 Tryd.sizeOf9 rfl rfl g101) (oq (o_load_z Tryd.isAgg9 rfl rfl) (oq (o_sne rfl rfl) ?_)))))))))
        exact obl_e
       refine wk_x (wc_cond (b := !decide ((at' r36 (x73 + 1)) = (at' r39 x73))) rfl (fun c103 => ?_) (fun c103 => ?_))
       ·have h104 := cnd_t c103 h102
        refine wc_sr (wv (r := rB false) (o_assign rfl) (wl_x (wc_ret (wk_in_ret (wk_then_ret (wk_then_ret (wk_cut_ret ?_)))))))
        have h105 := stp_ret h104 ht90 hK88
        refine wk_in_ret (wk_then_ret ?_)
        obtain rfl := some_e h105
        exact wk_ret (r_1 Tryd.results4 (rv_t rfl)) (sS (sS sN)) ⟨rfl, rfl⟩
       ·have h106 := cnd_f c103 h102
        refine wc_skip (wk_in_norm (wk_x (wc_region (wv (o_add rfl rfl g97) (wm rfl (wl_nil ?_))))))
        have h107 := stp_next h106 ht90
        exact wk_then (wk_some (m91, x73 + 1, ()) ⟨h107, Nat.lt_succ_self _⟩ (Sub.c rfl (Sub.c5 rfl rfl rfl rfl rfl (Sub.c5 rfl rfl rfl rfl rfl Sub.nil))) (sC (sC sN)))
      ·have h108 := cnd_f c95 h93
       refine wc_exit (wk_then_exit ?_)
       have h109 := stp_go h108 ht90 hK88
       exact wk_then_exit (wk_cut_hit (wk_some ((), ()) h109 (Sub.c rfl (Sub.c rfl (Sub.c5 rfl rfl rfl rfl rfl Sub.nil))) (sC (sC sN))))
     ·rintro ⟨⟨⟩, ⟨⟩⟩ h110
      refine wk_as (l' := [(1, rI .i64 n), (2, rI .i64 m), (3, rS source), (4, rSl 4 (List.map eTApiCell v)), (5, rI .i64 at_), (6, rv (.pointer (some ⟨b1, 0, none⟩))), (13, rv (.pointer (some ⟨b17, 0, none⟩)))]) (H' := [.blk b17 (eTApiEvent r14.1) 24, .blk b1 (eTApiEvent e) 24]) rfl rfl ?_
      replace h110 : lEvDescends_k1 F e n m source v at_ r14  = some r := h110
      unfold lEvDescends_k1 at h110
      refine wk_in_hit (wk_x (wc_sr (wv (o_load_agg (i := 1) Tryd.isAgg24 Tryd.sizeOf24 rfl rfl rfl rfl) (wm rfl (wm rfl (wm rfl (wm rfl ?_)))))))
      obtain ⟨r111, e113, h112⟩ := obn_e h110
      refine wc0 Tryd.call12 (eChild_w F e m source v at_ r111 e113) rfl (wm rfl (wv (o_extract rfl rfl) (wv (o_extract rfl rfl) (w_alloc (cs := [rS ([] : Str), rS ([] : Str), rS ([] : Str), rS ([] : Str), rI .i64 0, rS ([] : Str), rv (.slice none 0 0)]) Tryd.zeroValue24 rfl rfl (fun b114 => ?_)))))
      refine u_store_agg (i := 0) Tryd.sizeOf24 rfl rfl rfl (OneAll.c rfl) rfl rfl (cs' := [rS r111.1.fID, rS r111.1.fTenant, rS r111.1.fSource, rS r111.1.fKey, rI .i64 r111.1.fAt, rS r111.1.fCause, rSl 4 (List.map eTApiCell r111.1.fBody)]) rfl (H' := [.blk b114 (eTApiEvent r111.1) 24, .blk b17 (eTApiEvent r14.1) 24, .blk b1 (eTApiEvent e) 24]) rfl (wa rfl (wl_x ?_))
      obtain ⟨g115, h116⟩ := chk_e h112
      obtain ⟨g117, h118⟩ := chk_e h116
      refine wc_seq_mid [(12, rB (bif !decide (r111.2 = 0) then (ov (evAwake F)) else (((decide (r111.1.fID = r14.1.fID)) == (decide (m = n))) && (ov (evAwake F)))))] [] ?_ ?_
      ·refine wc_region (wm rfl (wv (o_ne rfl rfl) (wm rfl (bsplit (!decide (r111.2 = 0)) (fun c119 => ?_) (fun c119 => ?_)))))
       ·refine wf c119 (wf c119 (wf c119 (wf c119 (wf c119 (wf c119 (wf c119 (wf c119 (wf c119 (wv (r := rB true) (o_pick_t (b := !decide (r111.2 = 0)) rfl c119 rfl) (wm rfl (wl_on (b := true) rfl rfl rfl (wc0 Tryd.call6 (evAwake_w F (ov (evAwake F)) (ov_e (imp_t g115 c119))) rfl (wv (r := rB (ov (evAwake F))) (o_pick_t (b := true) rfl rfl rfl) (wa rfl (wl_nil ?_)))))))))))))))
        exact wtc c119
       ·refine wo c119 (wv (o_fieldAddr Tryd.underlying24 rfl Tryd.sizeOf9 rfl rfl) (wo c119 (wv (o_load (i := 0) Tryd.isAgg9 rfl rfl rfl) (wo c119 (wv (o_fieldAddr Tryd.underlying24 rfl Tryd.sizeOf9 rfl rfl) (wo c119 (wv (o_load (i := 1) Tryd.isAgg9 rfl rfl rfl) (wo c119 (wv (o_seq rfl rfl) (wo c119 (wm rfl (wo c119 (wm rfl (wo c119 (wv (o_eq rfl rfl) (wo c119 (wv (r := rB ((decide (r111.1.fID = r14.1.fID)) == (decide (m = n)))) (o_beq Tryd.underlying4 rfl rfl) (wpf rfl c119 rfl (wm rfl (bsplit ((decide (r111.1.fID = r14.1.fID)) == (decide (m = n))) (fun c120 => ?_) (fun c120 => ?_)))))))))))))))))))))
        ·refine wo c120 (wc0 Tryd.call6 (evAwake_w F (ov (evAwake F)) (ov_e (imp_t (imp_f g117 c119) c120))) rfl (wpt rfl c120 rfl (wa rfl (wl_nil ?_))))
         exact wtc (And.intro c119 c120)
        ·refine wf c120 (wv (r := rB false) (o_pick_f (b := (decide (r111.1.fID = r14.1.fID)) == (decide (m = n))) rfl c120 rfl) (wa rfl (wl_nil ?_)))
         exact wtc (And.intro c119 c120)
      refine wc_ret ?_
      obtain rfl := some_e h118
      exact wk_ret (r_1 Tryd.results4 (rv_t rfl)) sN ⟨rfl, rfl⟩

end Go.Proofs.YtpmiamphppcfeaaDoor.Q

/-
 What is known of the values that the law is handed. Plain definitions.
-/
namespace Go.Proofs.YtpmiamphppcfeaaDoor.lawEventDescends
open Go
set_option linter.unusedVariables false
def ok54 (y : TApiCell) : Bool := (inK .i64) y.fKind && (inK .i64) y.fInt && okS y.fStr && (inK .i64) y.fN
def ok24 (y : TApiEvent) : Bool := okS y.fID && okS y.fTenant && okS y.fSource && okS y.fKey && (inK .i64) y.fAt && okS y.fCause && (fun ys : (List TApiCell) => ys.all ok54 && decide (ys.length ≤ 9223372036854775807)) y.fBody
def Law : Prop := ∀ (y0 : TApiEvent) (y1 : Int) (y2 : Int) (y3 : Str) (y4 : (List TApiCell)) (y5 : Int) (o0 : ok24 y0 = true) (o1 : (inK .i64) y1 = true) (o2 : (inK .i64) y2 = true) (o3 : okS y3 = true) (o4 : (fun ys : (List TApiCell) => ys.all ok54 && decide (ys.length ≤ 9223372036854775807)) y4 = true) (o5 : (inK .i64) y5 = true), ∃ F, lEvDescends F y0 y1 y2 y3 y4 y5 = some true
end Go.Proofs.YtpmiamphppcfeaaDoor.lawEventDescends

/-
 What small functions of the package value and of its reference compute. Plain laws.
-/
namespace Go.Proofs.YtpmiamphppcfeaaDoor
open Go
set_option linter.unusedVariables false
set_option linter.unusedSimpArgs false
def okc (c : UInt8) : Bool := decide (32 ≤ c.toNat) && decide (c.toNat ≤ 126)
theorem bat_get {s : Str} {x : Int} {c : UInt8} (h : s[x.toNat]? = some c) : bat s x = (c.toNat : Int) := by simp [bat, h]
theorem take_all_succ {α : Type} {p : α → Bool} {s : List α} {k : Nat} {c : α} (h : s[k]? = some c) : (s.take (k + 1)).all p = ((s.take k).all p && p c) := by
 rw [List.take_add_one, h]; simp
theorem all_false_of {α : Type} {p : α → Bool} {s : List α} {k : Nat} {c : α} (h : s[k]? = some c) (hp : p c = false) : s.all p = false := by
 rw [List.all_eq_false]; exact ⟨c, List.mem_of_getElem? h, by simp [hp]⟩
theorem vText_eq {F : Nat} {s : Str} (hF : s.length < F) (hs : s.length ≤ 9223372036854775807) : vText F s = some (s.all okc) := by
 obtain ⟨o, h1, h2⟩ := lop_ind (body := fun σ => vText_b1 s σ) (fun x => 0 ≤ x ∧ x ≤ (s.length : Int) ∧ (s.take x.toNat).all okc = true) (fun x => s.length - x.toNat)
  (fun o => oute (fun _ => vText_k1) o = some (s.all okc)) (fun x ⟨h0, hl, ha⟩ => by
   unfold vText_b1
   by_cases hx : x < (s.length : Int)
   ·obtain ⟨c, hc⟩ : ∃ c, s[x.toNat]? = some c := ⟨s[x.toNat]'(by omega), List.getElem?_eq_getElem (by omega)⟩
    rw [cnd_tt (by simpa using hx), chk_inR h0 hx, bat_get hc]
    cases ho : okc c with
    | false =>
     refine .inr ⟨.ret false, ?_, ?_⟩
     ·rw [cnd_tt]
      simp only [okc, Bool.and_eq_false_iff, decide_eq_false_iff_not] at ho
      simp only [Bool.or_eq_true, decide_eq_true_eq]; omega
     ·simp [oute, all_false_of hc ho]
    | true =>
     refine .inl ⟨x + 1, ?_, ⟨by omega, by omega, ?_⟩, by omega⟩
     ·rw [cnd_ff, chk_i64 (by omega) (by omega)]
      simp only [okc, Bool.and_eq_true, decide_eq_true_eq] at ho
      simp only [Bool.or_eq_false_iff, decide_eq_false_iff_not]; omega
     ·rw [show (x + 1).toNat = x.toNat + 1 from by omega, take_all_succ hc, ha, ho]; rfl
   ·refine .inr ⟨.go (), by rw [cnd_ff (by simpa using hx)], ?_⟩
    rw [show x.toNat = s.length from by omega, List.take_length] at ha
    simp [oute, vText_k1, ha]) F 0 ⟨by omega, by omega, by simp⟩ (by simpa using hF)
 unfold vText
 rw [obn_s h1, h2]
def pl (c : TApiCell) : Bool :=
 bif decide (c.fKind = 1) then (decide (c.fInt = 0) && (decide (c.fStr = []) && decide (c.fN = 0))) else
 bif decide (c.fKind = 2) then ((decide (c.fInt = 0) || decide (c.fInt = 1)) && (decide (c.fStr = []) && decide (c.fN = 0))) else
 bif decide (c.fKind = 3) then (decide (c.fStr = []) && decide (c.fN = 0)) else
 bif decide (c.fKind = 4) then (decide (c.fInt = 0) && (decide (c.fN = 0) && c.fStr.all okc)) else
 bif decide (c.fKind = 5) then (decide (c.fInt = 0) && (decide (c.fStr = []) && decide (0 ≤ c.fN))) else
 bif decide (c.fKind = 6) then (decide (c.fInt = 0) && (decide (c.fStr = []) && decide (0 ≤ c.fN))) else false
theorem cnd_some {α : Type} {p : Bool} {x y : Option α} {a b : α} (h : x = some a) (h' : y = some b) : cnd p x y = some (bif p then a else b) := by cases p <;> simp [cnd, h, h']
theorem vPlain_eq {F : Nat} {c : TApiCell} (hF : c.fStr.length < F) (hs : c.fStr.length ≤ 9223372036854775807) : vPlain F c = some (pl c) := by
 unfold vPlain pl
 rw [vText_eq hF hs]
 refine cnd_some rfl (cnd_some ?_ (cnd_some rfl (cnd_some ?_ (cnd_some rfl (cnd_some rfl rfl)))))
 ·cases h : decide (c.fInt = 0) <;> simp
 ·simp [imp, chk, ov]
def clr : List TValueOpen → List TValueOpen
 | [] => []
 | e :: S => bif decide (1 < e.fLeft) then ⟨e.fPairs, e.fLeft - 1, e.fPairs, e.fLast, e.fStarted⟩ :: S else clr S
theorem at_last {α : Type} [Inhabited α] (xs : List α) (e : α) : at' (xs ++ [e]) (xs.length : Int) = e := by simp [at']
theorem set_last {α : Type} (xs : List α) (e e' : α) : List.set (xs ++ [e]) (Int.toNat (xs.length : Int)) e' = xs ++ [e'] := by simp
theorem len_last {α : Type} (xs : List α) (e : α) : ((xs ++ [e]).length : Int) - 1 = (xs.length : Int) := by simp
theorem take_last {α : Type} (xs : List α) (e : α) : List.take (Int.toNat (xs.length : Int)) (xs ++ [e]) = xs := by simp
theorem vClosed_lop : ∀ (S : List TValueOpen) (F : Nat), S.length < F → (∀ e ∈ S, 1 ≤ e.fLeft ∧ e.fLeft ≤ 9223372036854775807) → S.length ≤ 4611686018427387904 →
  ∃ o, lop (fun σ => vClosed_b1 σ) F S.reverse = some o ∧ oute (fun ν => vClosed_k1 ν) o = some (clr S).reverse
 | [], F + 1, _, _, _ => ⟨.go [], by simp [lop, vClosed_b1, cnd], by simp [oute, vClosed_k1, clr]⟩
 | e :: S, F + 1, hF, hb, hl => by
  obtain ⟨h1, h2⟩ := hb e (by simp)
  simp only [List.length_cons] at hF hl
  have hx : S.reverse.length = S.length := by simp
  generalize hxs : S.reverse = xs at hx
  have hr : (e :: S).reverse = xs ++ [e] := by simp [hxs]
  rw [hr]
  have hb1 : vClosed_b1 (xs ++ [e]) = bif decide (1 < e.fLeft) then some (.out (.ret (xs ++ [⟨e.fPairs, e.fLeft - 1, e.fPairs, e.fLast, e.fStarted⟩]))) else some (.next xs) := by
   unfold vClosed_b1
   rw [cnd_tt (by simp)]
   simp only [len_last, at_last, set_last, bnd]
   rw [chk_i64 (by omega) (by omega), chk_inR (by omega) (by simp; omega), chk_i64 (by omega) (by omega)]
   cases hd : decide (1 < e.fLeft) with
   | true =>
    rw [cnd_tt (by simp at hd ⊢; omega)]; rfl
   | false =>
    rw [cnd_ff (by simp at hd ⊢; omega), chk_i64 (by omega) (by omega), chk_inC (by omega) (by simp; omega), take_last]; rfl
  rw [lop, hb1]
  cases hd : decide (1 < e.fLeft) with
  | true => exact ⟨_, rfl, by simp [oute, vClosed_k1, clr, hd, hxs]⟩
  | false =>
   obtain ⟨o, ho1, ho2⟩ := vClosed_lop S F (by omega) (fun e he => hb e (by simp [he])) (by omega)
   rw [hxs] at ho1
   exact ⟨o, ho1, by rw [ho2]; simp [clr, hd]⟩
theorem vClosed_eq {S : List TValueOpen} {F : Nat} (hF : S.length < F) (hb : ∀ e ∈ S, 1 ≤ e.fLeft ∧ e.fLeft ≤ 9223372036854775807) (hl : S.length ≤ 4611686018427387904) : vClosed F S.reverse = some (clr S).reverse := by
 obtain ⟨o, h1, h2⟩ := vClosed_lop S F hF hb hl
 unfold vClosed
 rw [obn_s h1, h2]
end Go.Proofs.YtpmiamphppcfeaaDoor

/-
 value.look, one cell at a time. Plain laws.
-/
namespace Go.Proofs.YtpmiamphppcfeaaDoor
open Go
set_option linter.unusedVariables false
set_option linter.unusedSimpArgs false
def qlen (s : Str) : Int := s.length + 2 + s.count 34 + s.count 92
theorem vQuoted_eq {s : Str} (hs : s.length ≤ 1152921504606846976) : vQuoted s = some (qlen s) := by
 have h1 : s.count 34 ≤ s.length := List.count_le_length
 have h2 : s.count 92 ≤ s.length := List.count_le_length
 unfold vQuoted Lib.countByte
 rw [chk_i64 (by omega) (by omega), chk_i64 (by omega) (by omega), chk_i64 (by omega) (by omega)]
 rfl
def szc (c : TApiCell) : Int :=
 bif decide (c.fKind = 1) then 4 else bif decide (c.fKind = 2) then IntKind.wrap .i64 (5 - c.fInt) else bif decide (c.fKind = 3) then ((Lib.itoa c.fInt).length : Int) else
 bif decide (c.fKind = 4) then qlen c.fStr else IntKind.wrap .i64 (2 + max 0 (IntKind.wrap .i64 (c.fN - 1)))
theorem vSize_eq {c : TApiCell} (hs : c.fStr.length ≤ 1152921504606846976) (hi : inK .i64 c.fInt = true) : vSize c = some (szc c) := by
 unfold vSize szc
 rw [vQuoted_eq hs]
 refine cnd_some rfl (cnd_some rfl (cnd_some ?_ (cnd_some rfl rfl)))
 rw [chk_t hi]
def shc (d : Nat) (sh : TValueShape) (c : TApiCell) : TValueShape :=
 ⟨max sh.fDepth ((d : Int) + 1), IntKind.wrap .i64 (sh.fBytes + szc c), sh.fOutside || (decide (c.fKind = 3) && !(decide ((-1000000000000) ≤ c.fInt) && decide (c.fInt ≤ 1000000000000))), sh.fLong || decide (200 < (c.fStr.length : Int))⟩
def shk (sh : TValueShape) (c : TApiCell) : TValueShape := ⟨sh.fDepth, IntKind.wrap .i64 (sh.fBytes + (qlen c.fStr + 1)), sh.fOutside, sh.fLong || decide (200 < (c.fStr.length : Int))⟩
def keyTop : List TValueOpen → Bool
 | [] => false
 | e :: _ => e.fKey
abbrev LkS := List TValueOpen × Int × TValueShape
abbrev LkO := Out (Int × TValueShape × Bool) TValueShape
def lkc (n : Int) (S : List TValueOpen) (i : Int) (sh : TValueShape) (c : TApiCell) : Stp LkS LkO :=
 bif !pl c then .out (.ret (0, sh, false)) else
 match S with
 | e :: S' =>
  bif e.fKey then
   bif !decide (c.fKind = 4) || (e.fStarted && (sLess c.fStr e.fLast || decide (c.fStr = e.fLast))) then .out (.ret (0, sh, false))
   else .next ((⟨e.fPairs, e.fLeft, false, c.fStr, true⟩ :: S').reverse, i + 1, shk sh c)
  else bif decide (0 < c.fN) then
   bif decide (n < c.fN) then .out (.ret (0, shc S.length sh c, false))
   else .next ((⟨decide (c.fKind = 6), c.fN, decide (c.fKind = 6), [], false⟩ :: S).reverse, i + 1, shc S.length sh c)
  else bif decide (clr S = []) then .out (.ret (i + 1, shc S.length sh c, true)) else .next ((clr S).reverse, i + 1, shc S.length sh c)
 | [] =>
  bif decide (0 < c.fN) then
   bif decide (n < c.fN) then .out (.ret (0, shc 0 sh c, false))
   else .next ([⟨decide (c.fKind = 6), c.fN, decide (c.fKind = 6), [], false⟩], i + 1, shc 0 sh c)
  else .out (.ret (i + 1, shc 0 sh c, true))
theorem clr_nil_length {S : List TValueOpen} : decide (((clr S).reverse.length : Int) = 0) = decide (clr S = []) := by
 rw [Bool.eq_iff_iff]; simp
theorem inA48 {α : Type} {xs : List α} {e x : α} {M : Nat} (h : xs.length + 1 ≤ M) (hM2 : (M + 2) * 48 ≤ 140737488355328) : inA 48 ((xs ++ [e]).length + ([x] : List α).length) = true := by
 refine decide_eq_true (Nat.le_trans (Nat.mul_le_mul_right 48 ?_) hM2)
 rw [List.length_append, List.length_singleton, List.length_singleton]; omega
set_option maxHeartbeats 600000 in
theorem vLook_b1_eq {F : Nat} {v : List TApiCell} {S : List TValueOpen} {i : Int} {sh : TValueShape} {c : TApiCell} (h0 : 0 ≤ i) (hc : v[i.toNat]? = some c) {M : Nat} (hM : M ≤ 1152921504606846976) (hM2 : (M + 2) * 48 ≤ 140737488355328) (hv : v.length ≤ M) (hS : S.length ≤ M) (hF : M < F)
  (hs : c.fStr.length ≤ M) (hi : inK .i64 c.fInt = true) (hb : ∀ e ∈ S, 1 ≤ e.fLeft ∧ e.fLeft ≤ 9223372036854775807) : vLook_b1 F v S.reverse i sh = some (lkc v.length S i sh c) := by
 have hil : i.toNat < v.length := (List.getElem?_eq_some_iff.1 hc).1
 have hat : at' v i = c := by simp [at', hc]
 unfold vLook_b1 lkc
 rw [cnd_tt (by simp; omega), chk_inR h0 (by omega), hat, vPlain_eq (by omega) (by omega), obn_s rfl]
 cases hp : pl c with
 | false => rw [cnd_tt (by simp)]; rfl
 | true =>
  rw [cnd_ff (by simp)]
  cases S with
  | nil =>
   rw [chk_t (by simp [imp]), chk_t (by simp [imp]), cnd_ff (by simp), chk_i64 (by simp) (by simp), vSize_eq (by omega) hi, obn_s rfl, chk_t (by simp [imp, nValid])]
   simp only [nValid, ov, Option.getD_some, Bool.not_true, cond_false]
   cases hn : decide (0 < c.fN) with
   | true =>
    rw [cnd_tt rfl]
    cases hm : decide ((v.length : Int) < c.fN) with
    | true => rw [cnd_tt rfl]; simp [shc]
    | false => rw [cnd_ff rfl, chk_t (by simp [inA])]; unfold vLook_j2; rw [chk_i64 (by omega) (by omega)]; simp [shc]
   | false =>
    rw [cnd_ff rfl, obn_s (vClosed_eq (S := []) (by simp; omega) (by simp) (by simp)), cnd_tt (by simp [clr]), chk_i64 (by omega) (by omega)]; simp [shc]
  | cons e S' =>
   have hx : S'.reverse.length = S'.length := by simp
   generalize hxs : S'.reverse = xs at hx
   have hr : (e :: S').reverse = xs ++ [e] := by simp [hxs]
   simp only [List.length_cons] at hS
   have hlen : ((xs ++ [e]).length : Int) = (xs.length : Int) + 1 := by simp
   rw [hr, chk_t (by simp only [imp, len_last]; rw [inK_i64' (by omega) (by omega)]; simp), chk_t (by simp only [imp, len_last]; rw [inR' (by omega) (by omega)]; simp)]
   rw [len_last, at_last]
   cases hk : e.fKey with
   | true =>
    rw [cnd_tt (by simp), chk_i64 (by omega) (by omega), chk_inR (by omega) (by omega)]
    simp only [hk, Bool.not_true, cond_false, cond_true]
    cases ht : !decide (c.fKind = 4) || (e.fStarted && (sLess c.fStr e.fLast || decide (c.fStr = e.fLast))) with
    | true => rw [cnd_tt rfl]; rfl
    | false =>
     rw [cnd_ff rfl, set_last, bnd, at_last, set_last, bnd, at_last, set_last, bnd, vQuoted_eq (by omega), obn_s rfl, chk_i64 (by unfold qlen; omega) (by unfold qlen; have := @List.count_le_length UInt8 _ 34 c.fStr; have := @List.count_le_length UInt8 _ 92 c.fStr; omega)]
     unfold vLook_j2
     rw [chk_i64 (by omega) (by omega)]
     simp [shk, hxs]
   | false =>
    rw [cnd_ff (by simp), hlen, chk_i64 (by omega) (by omega), vSize_eq (by omega) hi, obn_s rfl, chk_t (by simp [imp, nValid])]
    simp only [hk, nValid, ov, Option.getD_some, Bool.not_true, cond_false, cond_true]
    cases hn : decide (0 < c.fN) with
    | true =>
     rw [cnd_tt rfl]
     cases hm : decide ((v.length : Int) < c.fN) with
     | true => rw [cnd_tt rfl]; simp [shc, hx]
     | false => rw [cnd_ff rfl, chk_t (inA48 (by omega) hM2)]; unfold vLook_j2; rw [chk_i64 (by omega) (by omega)]; simp [shc, hx, hxs]
    | false =>
     have hcl := vClosed_eq (S := e :: S') (F := F) (by simp; omega) hb (by simp; omega)
     rw [hr] at hcl
     rw [cnd_ff rfl, hcl, obn_s rfl, clr_nil_length]
     cases hq : decide (clr (e :: S') = []) with
     | true => rw [cnd_tt rfl, chk_i64 (by omega) (by omega)]; simp [shc, hx]
     | false => rw [cnd_ff rfl]; unfold vLook_j2; rw [chk_i64 (by omega) (by omega)]; simp [shc, hx]
end Go.Proofs.YtpmiamphppcfeaaDoor

/-
 Values as forests; value.look on the cells of a forest. Plain laws.
-/
namespace Go.Proofs.YtpmiamphppcfeaaDoor
open Go
set_option linter.unusedVariables false
set_option linter.unusedSimpArgs false
section
variable {S O : Type} {body : S → Option (Stp S O)} {s t u : S} {o : O}
def Reach (body : S → Option (Stp S O)) (s t : S) : Prop := ∃ k, ∀ n, lop body (n + k) s = lop body n t
def Fin (body : S → Option (Stp S O)) (s : S) (o : O) : Prop := ∃ k, ∀ n, lop body (n + k) s = some o
theorem Reach.refl (s : S) : Reach body s s := ⟨0, fun _ => rfl⟩
theorem Reach.trans (h : Reach body s t) (h' : Reach body t u) : Reach body s u := by
 obtain ⟨k, hk⟩ := h
 obtain ⟨j, hj⟩ := h'
 exact ⟨j + k, fun n => by rw [← Nat.add_assoc, hk, hj]⟩
theorem Reach.step (h : body s = some (.next t)) : Reach body s t := ⟨1, fun n => by rw [lop, h]⟩
theorem Fin.step (h : body s = some (.out o)) : Fin body s o := ⟨1, fun n => by rw [lop, h]⟩
theorem Reach.fin (h : Reach body s t) (h' : Fin body t o) : Fin body s o := by
 obtain ⟨k, hk⟩ := h
 obtain ⟨j, hj⟩ := h'
 exact ⟨j + k, fun n => by rw [← Nat.add_assoc, hk, hj]⟩
end
inductive Fo where
 | nil
 | cell (k : Option Str) (c : TApiCell) (r : Fo)
 | node (k : Option Str) (c : TApiCell) (kids r : Fo)
def keyC : Option Str → List TApiCell
 | none => []
 | some s => [⟨4, 0, s, 0⟩]
def Fo.flat : Fo → List TApiCell
 | .nil => []
 | .cell k c r => keyC k ++ c :: r.flat
 | .node k c kids r => keyC k ++ c :: (kids.flat ++ r.flat)
def Fo.cnt : Fo → Nat
 | .nil => 0
 | .cell _ _ r => r.cnt + 1
 | .node _ _ _ r => r.cnt + 1
def keyOk (m : Bool) (last : Option Str) : Option Str → Bool
 | none => !m
 | some s => m && s.all okc && (match last with
  | none => true
  | some p => !(sLess s p || decide (s = p)))
def Fo.wf : Bool → Option Str → Fo → Bool
 | _, _, .nil => true
 | m, last, .cell k c r => keyOk m last k && pl c && !decide (0 < c.fN) && r.wf m k
 | m, last, .node k c kids r => keyOk m last k && pl c && decide (0 < c.fN) && decide (c.fN = kids.cnt) && kids.wf (decide (c.fKind = 6)) none && r.wf m k
def shK (k : Option Str) (sh : TValueShape) : TValueShape := match k with
 | none => sh
 | some s => shk sh ⟨4, 0, s, 0⟩
def Fo.sh (d : Nat) : TValueShape → Fo → TValueShape
 | s, .nil => s
 | s, .cell k c r => r.sh d (shc d (shK k s) c)
 | s, .node k c kids r => r.sh d (kids.sh (d + 1) (shc d (shK k s) c))
def Done (body : LkS → Option (Stp LkS LkO)) (s : LkS) (S : List TValueOpen) (i : Int) (sh : TValueShape) : Prop :=
 if clr S = [] then Fin body s (.ret (i, sh, true)) else Reach body s ((clr S).reverse, i, sh)
theorem Done.of {body : LkS → Option (Stp LkS LkO)} {s t : LkS} {S : List TValueOpen} {i : Int} {sh : TValueShape} (h : Reach body s t) (h' : Done body t S i sh) : Done body s S i sh := by
 unfold Done at *
 split
 ·rename_i e; rw [if_pos e] at h'; exact h.fin h'
 ·rename_i e; rw [if_neg e] at h'; exact h.trans h'
theorem Done.pop {body : LkS → Option (Stp LkS LkO)} {s : LkS} {e : TValueOpen} {S : List TValueOpen} {i : Int} {sh : TValueShape} (h : Done body s (e :: S) i sh) (h1 : e.fLeft = 1) : Done body s S i sh := by
 have : clr (e :: S) = clr S := by simp [clr, h1]
 unfold Done at *
 rw [this] at h; exact h
theorem Done.more {body : LkS → Option (Stp LkS LkO)} {s : LkS} {e : TValueOpen} {S : List TValueOpen} {i : Int} {sh : TValueShape} (h : Done body s (e :: S) i sh) (h1 : 1 < e.fLeft) : Reach body s ((⟨e.fPairs, e.fLeft - 1, e.fPairs, e.fLast, e.fStarted⟩ :: S).reverse, i, sh) := by
 have : clr (e :: S) = ⟨e.fPairs, e.fLeft - 1, e.fPairs, e.fLast, e.fStarted⟩ :: S := by simp [clr, h1]
 unfold Done at *
 rw [this, if_neg (by simp)] at h; exact h
end Go.Proofs.YtpmiamphppcfeaaDoor

/-
 value.look on the cells of a forest: it goes through them. Plain laws.
-/
namespace Go.Proofs.YtpmiamphppcfeaaDoor
open Go
set_option linter.unusedVariables false
set_option linter.unusedSimpArgs false
structure LkA (F M : Nat) (v : List TApiCell) : Prop where
 hM : M ≤ 1152921504606846976
 hM2 : (M + 2) * 48 ≤ 140737488355328
 hv : v.length ≤ M
 hF : M < F
 hc : ∀ c ∈ v, c.fStr.length ≤ M ∧ inK .i64 c.fInt = true ∧ c.fN ≤ 9223372036854775807
abbrev lkB (F : Nat) (v : List TApiCell) : LkS → Option (Stp LkS LkO) := fun σ => vLook_b1 F v σ.1 σ.2.1 σ.2.2
def lefts (S : List TValueOpen) : Prop := ∀ e ∈ S, 1 ≤ e.fLeft ∧ e.fLeft ≤ 9223372036854775807
section
variable {F M : Nat} {v : List TApiCell} {S : List TValueOpen} {i : Int} {sh : TValueShape} {c : TApiCell} {r : List TApiCell} {e : TValueOpen}
theorem drop_get (h0 : 0 ≤ i) (h : v.drop i.toNat = c :: r) : v[i.toNat]? = some c ∧ v.drop (i + 1).toNat = r ∧ i < v.length := by
 have h1 : (v.drop i.toNat)[0]? = some c := by rw [h]; rfl
 have h2 : v[i.toNat]? = some c := by simpa using h1
 have h3 := (List.getElem?_eq_some_iff.1 h2).1
 refine ⟨h2, ?_, by omega⟩
 rw [show (i + 1).toNat = i.toNat + 1 from by omega, ← List.drop_drop, h]; rfl
theorem round (hA : LkA F M v) (h0 : 0 ≤ i) (h : v.drop i.toNat = c :: r) (hS : (S.length : Int) ≤ i) (hb : lefts S) : lkB F v (S.reverse, i, sh) = some (lkc v.length S i sh c) := by
 obtain ⟨h1, _, h3⟩ := drop_get h0 h
 obtain ⟨a, b, _⟩ := hA.hc c (List.mem_of_getElem? h1)
 have := hA.hv
 exact vLook_b1_eq h0 h1 hA.hM hA.hM2 hA.hv (by omega) hA.hF a b hb
def keyed (e : TValueOpen) : Option Str → TValueOpen
 | none => e
 | some s => ⟨e.fPairs, e.fLeft, false, s, true⟩
def lastOk (e : TValueOpen) : Option Str → Prop
 | none => e.fStarted = false
 | some p => e.fStarted = true ∧ e.fLast = p
theorem keyRound (hA : LkA F M v) (h0 : 0 ≤ i) {k last : Option Str} (h : v.drop i.toNat = keyC k ++ r) (hS : (S.length : Int) + 1 ≤ i) (hb : lefts (e :: S)) (hk : keyOk e.fKey last k = true) (hl : lastOk e last) :
  Reach (lkB F v) ((e :: S).reverse, i, sh) ((keyed e k :: S).reverse, i + (keyC k).length, shK k sh) := by
 cases k with
 | none => simpa [keyed, keyC, shK] using Reach.refl _
 | some s =>
  simp only [keyOk, Bool.and_eq_true] at hk
  obtain ⟨⟨hm, hok⟩, hcmp⟩ := hk
  refine Reach.step ?_
  rw [round hA h0 (by simpa [keyC] using h) (by simpa using hS) hb]
  have hp : pl ⟨4, 0, s, 0⟩ = true := by simp [pl, hok]
  have ht : (e.fStarted && (sLess s e.fLast || decide (s = e.fLast))) = false := by
   cases last with
   | none => simp only [lastOk] at hl; rw [hl]; rfl
   | some p => obtain ⟨h1, h2⟩ := hl; rw [h1, h2]; simpa using hcmp
  simp only [lkc, hp, hm, ht, Bool.not_true, cond_false, cond_true, decide_true, Bool.or_false, Bool.or_self]
  rfl
theorem keyed_key {k last : Option Str} (hk : keyOk e.fKey last k = true) : (keyed e k).fKey = false := by
 cases k with
 | none => simpa [keyed, keyOk] using hk
 | some s => rfl
theorem keyed_left (k : Option Str) : (keyed e k).fLeft = e.fLeft ∧ (keyed e k).fPairs = e.fPairs := by cases k <;> exact ⟨rfl, rfl⟩
theorem leafRound (hA : LkA F M v) (h0 : 0 ≤ i) (h : v.drop i.toNat = c :: r) (hS : (S.length : Int) ≤ i) (hb : lefts S) (hk : keyTop S = false) (hp : pl c = true) (hn : decide (0 < c.fN) = false) :
  Done (lkB F v) (S.reverse, i, sh) S (i + 1) (shc S.length sh c) := by
 have hr := round (sh := sh) hA h0 h hS hb
 unfold Done
 cases S with
 | nil =>
  rw [if_pos (by simp [clr])]
  refine Fin.step ?_
  rw [hr]; simp [lkc, hp, hn]
 | cons e S =>
  simp only [keyTop] at hk
  split
  ·rename_i hc
   refine Fin.step ?_
   rw [hr]; simp [lkc, hp, hn, hk, hc]
  ·rename_i hc
   refine Reach.step ?_
   rw [hr]; simp [lkc, hp, hn, hk, hc]
theorem nodeRound (hA : LkA F M v) (h0 : 0 ≤ i) (h : v.drop i.toNat = c :: r) (hS : (S.length : Int) ≤ i) (hb : lefts S) (hk : keyTop S = false) (hp : pl c = true) (hn : decide (0 < c.fN) = true) (hv : c.fN ≤ v.length) :
  Reach (lkB F v) (S.reverse, i, sh) ((⟨decide (c.fKind = 6), c.fN, decide (c.fKind = 6), [], false⟩ :: S).reverse, i + 1, shc S.length sh c) := by
 have hr := round (sh := sh) hA h0 h hS hb
 have hv' : decide ((v.length : Int) < c.fN) = false := by simpa using hv
 refine Reach.step ?_
 rw [hr]
 cases S with
 | nil => simp only [lkc, hp, hn, hv', Bool.not_true, cond_false, cond_true]; rfl
 | cons e S =>
  simp only [keyTop] at hk
  simp only [lkc, hp, hn, hv', hk, Bool.not_true, cond_false, cond_true]
theorem cnt_le_flat : ∀ f : Fo, f.cnt ≤ f.flat.length
 | .nil => Nat.le_refl _
 | .cell k c r => by have := cnt_le_flat r; simp [Fo.cnt, Fo.flat]; omega
 | .node k c kids r => by have := cnt_le_flat r; simp [Fo.cnt, Fo.flat]; omega
theorem drop_app {α : Type} {v xs r : List α} {i : Int} (h0 : 0 ≤ i) (h : v.drop i.toNat = xs ++ r) : v.drop (i + xs.length).toNat = r := by
 rw [show (i + (xs.length : Int)).toNat = i.toNat + xs.length from by omega, ← List.drop_drop, h, List.drop_left]
theorem restLook (hA : LkA F M v) {e' : TValueOpen} {s : LkS} {k : Option Str} {r' : Fo}
  (ih : ∀ (e : TValueOpen) (S : List TValueOpen) (i : Int) (sh : TValueShape) (last : Option Str) (r : List TApiCell), 1 ≤ r'.cnt → r'.wf e.fPairs last = true → e.fKey = e.fPairs → e.fLeft = r'.cnt → lastOk e last → (e.fPairs = false → last = none) → v.drop i.toNat = r'.flat ++ r → 0 ≤ i → (S.length : Int) + 1 ≤ i → lefts S →
   Done (lkB F v) ((e :: S).reverse, i, sh) S (i + r'.flat.length) (r'.sh (S.length + 1) sh))
  (hd : Done (lkB F v) s (e' :: S) i sh) (hl : e'.fLeft = r'.cnt + 1) (hw : r'.wf e'.fPairs k = true) (hk : lastOk e' k) (hm : e'.fPairs = false → k = none) (hv : v.drop i.toNat = r'.flat ++ r) (h0 : 0 ≤ i) (hS : (S.length : Int) + 1 ≤ i) (hb : lefts S) :
  Done (lkB F v) s S (i + r'.flat.length) (r'.sh (S.length + 1) sh) := by
 by_cases h1 : r'.cnt = 0
 ·cases r' with
  | nil => simpa [Fo.flat, Fo.sh] using hd.pop (by rw [hl]; rfl)
  | cell _ _ _ => simp [Fo.cnt] at h1
  | node _ _ _ _ => simp [Fo.cnt] at h1
 ·have := hd.more (by omega)
  refine Done.of this (ih _ S i sh k r (by omega) hw rfl (by simp only; omega) ?_ hm hv h0 hS hb)
  cases k with
  | none => exact hk
  | some p => exact hk
theorem keyed_last {k last : Option Str} (hl : lastOk e last) (hm : e.fPairs = false → last = none) (hk : keyOk e.fPairs last k = true) : lastOk (keyed e k) k ∧ ((keyed e k).fPairs = false → k = none) := by
 cases k with
 | none =>
  have : e.fPairs = false := by simpa [keyOk] using hk
  rw [hm this] at hl
  exact ⟨hl, fun _ => rfl⟩
 | some s =>
  refine ⟨⟨rfl, rfl⟩, fun h => ?_⟩
  have h : e.fPairs = false := h
  simp [keyOk, h] at hk
theorem forest_look (hA : LkA F M v) : ∀ (f : Fo) (e : TValueOpen) (S : List TValueOpen) (i : Int) (sh : TValueShape) (last : Option Str) (r : List TApiCell), 1 ≤ f.cnt → f.wf e.fPairs last = true → e.fKey = e.fPairs → e.fLeft = f.cnt → lastOk e last → (e.fPairs = false → last = none) → v.drop i.toNat = f.flat ++ r → 0 ≤ i → (S.length : Int) + 1 ≤ i → lefts S →
   Done (lkB F v) ((e :: S).reverse, i, sh) S (i + f.flat.length) (f.sh (S.length + 1) sh) := by
 have hmax : ∀ (i : Int) (xs : List TApiCell), 0 ≤ i → v.drop i.toNat = xs → xs.length ≤ v.length := fun i xs _ h => by rw [← h, List.length_drop]; omega
 intro f
 induction f with
 | nil => intro e S i sh last r h1; simp [Fo.cnt] at h1
 | cell k c r' ih =>
  intro e S i sh last r h1 hw hk hl hlo hm hv h0 hS hb
  simp only [Fo.wf, Bool.and_eq_true, Bool.not_eq_true'] at hw
  obtain ⟨⟨⟨w1, w2⟩, w3⟩, w4⟩ := hw
  simp only [Fo.flat, List.append_assoc, List.cons_append] at hv
  have hcnt := hmax i _ h0 hv
  have hcf := cnt_le_flat r'
  simp only [List.length_append, List.length_cons] at hcnt
  have hvM := hA.hv; have hMM := hA.hM
  simp only [Fo.cnt] at hl
  have hb' : lefts (e :: S) := fun x hx => by
   rcases List.mem_cons.1 hx with rfl | hx
   ·constructor <;> omega
   ·exact hb x hx
  have hkr := keyRound (sh := sh) hA h0 hv hS hb' (by rw [hk]; exact w1) hlo
  have hv1 := drop_app h0 hv
  obtain ⟨kl, kp⟩ := keyed_left (e := e) k
  have hbk : lefts (keyed e k :: S) := fun x hx => by
   rcases List.mem_cons.1 hx with rfl | hx
   ·rw [kl]; exact hb' e (by simp)
   ·exact hb x hx
  have hd := leafRound (sh := shK k sh) hA (by omega) hv1 (by simp only [List.length_cons]; omega) hbk (keyed_key (by rw [hk]; exact w1)) w2 w3
  obtain ⟨q1, q2⟩ := keyed_last hlo hm w1
  have hv2 := (drop_get (by omega) hv1).2.1
  have := restLook hA ih (hd.of hkr) (by rw [kl, hl]; rfl) (by rw [kp]; exact w4) q1 q2 hv2 (by omega) (by omega) hb
  simp only [Fo.flat, Fo.sh, List.length_append, List.length_cons]
  rw [show i + ((((keyC k).length + (r'.flat.length + 1) : Nat)) : Int) = i + (keyC k).length + 1 + r'.flat.length from by omega]
  exact this
 | node k c kids r' ihk ih =>
  intro e S i sh last r h1 hw hk hl hlo hm hv h0 hS hb
  simp only [Fo.wf, Bool.and_eq_true, decide_eq_true_eq] at hw
  obtain ⟨⟨⟨⟨⟨w1, w2⟩, w3⟩, w5⟩, w6⟩, w4⟩ := hw
  simp only [Fo.flat, List.append_assoc, List.cons_append] at hv
  have hcnt := hmax i _ h0 hv
  have hcf := cnt_le_flat r'
  have hck := cnt_le_flat kids
  simp only [List.length_append, List.length_cons] at hcnt
  have hvM := hA.hv; have hMM := hA.hM
  simp only [Fo.cnt] at hl
  have hb' : lefts (e :: S) := fun x hx => by
   rcases List.mem_cons.1 hx with rfl | hx
   ·constructor <;> omega
   ·exact hb x hx
  have hkr := keyRound (sh := sh) hA h0 hv hS hb' (by rw [hk]; exact w1) hlo
  have hv1 := drop_app h0 hv
  obtain ⟨kl, kp⟩ := keyed_left (e := e) k
  have hbk : lefts (keyed e k :: S) := fun x hx => by
   rcases List.mem_cons.1 hx with rfl | hx
   ·rw [kl]; exact hb' e (by simp)
   ·exact hb x hx
  have hn := nodeRound (sh := shK k sh) hA (by omega) hv1 (by simp only [List.length_cons]; omega) hbk (keyed_key (by rw [hk]; exact w1)) w2 (by simpa using w3) (by omega)
  have hv2 := (drop_get (by omega) hv1).2.1
  have hd := ihk ⟨decide (c.fKind = 6), c.fN, decide (c.fKind = 6), [], false⟩ (keyed e k :: S) (i + (keyC k).length + 1) (shc (S.length + 1) (shK k sh) c) none _ (by omega) w6 rfl w5 rfl (fun _ => rfl) hv2 (by omega) (by simp only [List.length_cons]; omega) hbk
  obtain ⟨q1, q2⟩ := keyed_last hlo hm w1
  have hv3 := drop_app (by omega) hv2
  have := restLook hA ih ((hd.of hn).of hkr) (by rw [kl, hl]; rfl) (by rw [kp]; exact w4) q1 q2 hv3 (by omega) (by omega) hb
  simp only [Fo.flat, Fo.sh, List.length_append, List.length_cons]
  rw [show i + ((((keyC k).length + (kids.flat.length + r'.flat.length + 1) : Nat)) : Int) = i + (keyC k).length + 1 + kids.flat.length + r'.flat.length from by omega]
  exact this
end
end Go.Proofs.YtpmiamphppcfeaaDoor

/-
 value.look always ends; what it says of a value. Plain laws.
-/
namespace Go.Proofs.YtpmiamphppcfeaaDoor
open Go
set_option linter.unusedVariables false
set_option linter.unusedSimpArgs false
theorem lop_mono {S O : Type} {body : S → Option (Stp S O)} {o : O} : ∀ {n : Nat} {s : S} (k : Nat), lop body n s = some o → lop body (n + k) s = some o
 | 0, s, k, h => by cases h
 | n + 1, s, k, h => by
  rw [show n + 1 + k = n + k + 1 from by omega, lop]
  rw [lop] at h
  cases hb : body s with
  | none => rw [hb] at h; cases h
  | some t =>
   rw [hb] at h
   cases t with
   | next s' => exact lop_mono k h
   | out o' => exact h
theorem Fin.eq {S O : Type} {body : S → Option (Stp S O)} {s : S} {o o' : O} {n : Nat} (h : Fin body s o) (h' : lop body n s = some o') : o' = o := by
 obtain ⟨k, hk⟩ := h
 have := lop_mono k h'
 rw [hk n] at this
 exact (some_e this).symm
theorem clr_lefts : ∀ {S : List TValueOpen}, lefts S → lefts (clr S) ∧ (clr S).length ≤ S.length
 | [], h => ⟨h, Nat.le_refl _⟩
 | e :: S, h => by
  have hS : lefts S := fun x hx => h x (by simp [hx])
  have he := h e (by simp)
  unfold clr
  cases hd : decide (1 < e.fLeft) with
  | true =>
   simp only [decide_eq_true_eq] at hd
   refine ⟨fun x hx => ?_, by simp⟩
   rcases List.mem_cons.1 hx with rfl | hx
   ·simp only; omega
   ·exact hS x hx
  | false =>
   obtain ⟨h1, h2⟩ := clr_lefts hS
   exact ⟨h1, by simp only [cond_false, List.length_cons]; omega⟩
theorem lkc_next {n : Int} {S : List TValueOpen} {i : Int} {sh : TValueShape} {c : TApiCell} {σ : LkS} (hb : lefts S) (hS : (S.length : Int) ≤ i) (hN : c.fN ≤ 9223372036854775807) (h : lkc n S i sh c = .next σ) : ∃ S' sh', σ = (S'.reverse, i + 1, sh') ∧ lefts S' ∧ (S'.length : Int) ≤ i + 1 := by
 unfold lkc at h
 cases hp : pl c with
 | false => simp [hp] at h
 | true =>
  simp only [hp, Bool.not_true, cond_false] at h
  cases S with
  | nil =>
   simp only at h
   cases hn : decide (0 < c.fN) with
   | false => simp [hn] at h
   | true =>
    simp only [hn, cond_true] at h
    cases hm : decide (n < c.fN) with
    | true => simp [hm] at h
    | false =>
     simp only [hm, cond_false, Stp.next.injEq] at h
     refine ⟨[_], _, h.symm, fun x hx => ?_, by simp at hS ⊢; omega⟩
     simp only [List.mem_singleton] at hx; subst hx
     simp only [decide_eq_true_eq] at hn
     exact ⟨by simp only; omega, hN⟩
  | cons e S =>
   have he := hb e (by simp)
   have hbS : lefts S := fun x hx => hb x (by simp [hx])
   simp only [List.length_cons] at hS
   cases hk : e.fKey with
   | true =>
    simp only [hk, cond_true] at h
    cases hq : (!decide (c.fKind = 4) || (e.fStarted && (sLess c.fStr e.fLast || decide (c.fStr = e.fLast)))) with
    | true => rw [hq] at h; simp at h
    | false =>
     rw [hq] at h
     simp only [cond_false, Stp.next.injEq] at h
     refine ⟨_ :: S, _, h.symm, fun x hx => ?_, by simp only [List.length_cons]; omega⟩
     rcases List.mem_cons.1 hx with rfl | hx
     ·exact he
     ·exact hbS x hx
   | false =>
    simp only [hk, cond_false] at h
    cases hn : decide (0 < c.fN) with
    | true =>
     simp only [hn, cond_true] at h
     cases hm : decide (n < c.fN) with
     | true => simp [hm] at h
     | false =>
      simp only [hm, cond_false, Stp.next.injEq] at h
      refine ⟨_ :: e :: S, _, h.symm, fun x hx => ?_, by simp only [List.length_cons]; omega⟩
      rcases List.mem_cons.1 hx with rfl | hx
      ·simp only [decide_eq_true_eq] at hn
       exact ⟨by simp only; omega, hN⟩
      ·exact hb x hx
    | false =>
     simp only [hn, cond_false] at h
     cases hq : decide (clr (e :: S) = []) with
     | true => rw [hq] at h; simp at h
     | false =>
      rw [hq] at h
      simp only [cond_false, Stp.next.injEq] at h
      obtain ⟨h1, h2⟩ := clr_lefts hb
      simp only [List.length_cons] at h2
      exact ⟨_, _, h.symm, h1, by omega⟩
theorem look_total {F M : Nat} {v : List TApiCell} (hA : LkA F M v) : ∃ o, lop (lkB F v) F (([] : List TValueOpen), 0, (⟨0, 0, false, false⟩ : TValueShape)) = some o ∧ True := by
 refine lop_ind (fun σ => ∃ S i sh, σ = (S.reverse, i, sh) ∧ lefts S ∧ (S.length : Int) ≤ i ∧ 0 ≤ i ∧ i ≤ v.length) (fun σ => v.length - σ.2.1.toNat) (fun _ => True) (fun σ hI => ?_) F _ ⟨[], 0, _, rfl, (fun x hx => by cases hx), Int.le_refl _, Int.le_refl _, by omega⟩ (by have := hA.hv; have := hA.hF; simp; omega)
 obtain ⟨S, i, sh, rfl, hb, hS, h0, hi⟩ := hI
 by_cases hx : i < v.length
 ·obtain ⟨c, hc⟩ : ∃ c, v[i.toNat]? = some c := ⟨v[i.toNat]'(by omega), List.getElem?_eq_getElem (by omega)⟩
  have hdr : v.drop i.toNat = c :: v.drop (i.toNat + 1) := by rw [List.drop_eq_getElem_cons (by omega)]; congr 1; exact (List.getElem?_eq_some_iff.1 hc).2
  have hr := round (sh := sh) hA h0 hdr hS hb
  cases hl : lkc v.length S i sh c with
  | next τ =>
   obtain ⟨S', sh', rfl, h1, h2⟩ := lkc_next hb hS (hA.hc c (List.mem_of_getElem? hc)).2.2 hl
   exact .inl ⟨_, by rw [hr, hl], ⟨S', i + 1, sh', rfl, h1, h2, by omega, by omega⟩, by simp only; omega⟩
  | out o => exact .inr ⟨o, by rw [hr, hl], trivial⟩
 ·refine .inr ⟨.go sh, ?_, trivial⟩
  show vLook_b1 F v S.reverse i sh = _
  unfold vLook_b1
  rw [cnd_ff (by simpa using hx)]
def Fo.one : Fo → Bool
 | .cell none _ .nil => true
 | .node none _ _ .nil => true
 | _ => false
def sh0 : TValueShape := ⟨0, 0, false, false⟩
theorem look_fin {F M : Nat} {v : List TApiCell} (hA : LkA F M v) {f : Fo} (h1 : f.one = true) (hw : f.wf false none = true) {r : List TApiCell} (hv : v = f.flat ++ r) : Fin (lkB F v) ([], 0, sh0) (.ret (f.flat.length, f.sh 0 sh0, true)) := by
 have h0 : v.drop (0 : Int).toNat = f.flat ++ r := by rw [hv]; rfl
 have hlen : f.flat.length ≤ v.length := by rw [hv]; simp
 cases f with
 | nil => cases h1
 | cell k c r' =>
  cases k with
  | some s => cases h1
  | none =>
   cases r' with
   | nil =>
    simp only [Fo.wf, Bool.and_eq_true, Bool.not_eq_true'] at hw
    have := leafRound (S := []) (sh := sh0) hA (Int.le_refl 0) h0 (by simp) (fun x hx => by cases hx) rfl hw.1.1.2 hw.1.2
    unfold Done at this
    rw [if_pos (show clr [] = [] from rfl)] at this
    simpa [Fo.flat, Fo.sh, keyC, shK] using this
   | cell _ _ _ => cases h1
   | node _ _ _ _ => cases h1
 | node k c kids r' =>
  cases k with
  | some s => cases h1
  | none =>
   cases r' with
   | nil =>
    simp only [Fo.wf, Bool.and_eq_true, decide_eq_true_eq] at hw
    obtain ⟨⟨⟨⟨⟨w1, w2⟩, w3⟩, w5⟩, w6⟩, w4⟩ := hw
    have hck := cnt_le_flat kids
    simp only [Fo.flat, keyC, List.nil_append, List.append_nil, List.length_cons] at hlen
    have hvM := hA.hv; have hMM := hA.hM
    have hn := nodeRound (S := []) (sh := sh0) hA (Int.le_refl 0) h0 (by simp) (fun x hx => by cases hx) rfl w2 (by simpa using w3) (by omega)
    have hv2 := (drop_get (Int.le_refl 0) h0).2.1
    have hd := forest_look hA kids ⟨decide (c.fKind = 6), c.fN, decide (c.fKind = 6), [], false⟩ [] (0 + 1) (shc 0 sh0 c) none r (by omega) w6 rfl w5 rfl (fun _ => rfl) (by rw [hv2]; simp [Fo.flat]) (by omega) (by simp) (fun x hx => by cases hx)
    unfold Done at hd
    rw [if_pos (show clr [] = [] from rfl)] at hd
    have := hn.fin hd
    have e : ((0 : Int) + 1 + kids.flat.length) = ((Fo.node none c kids .nil).flat.length : Int) := by simp [Fo.flat, keyC]; omega
    rw [e] at this
    exact this
   | cell _ _ _ => cases h1
   | node _ _ _ _ => cases h1
theorem look_val {F M : Nat} {v : List TApiCell} (hA : LkA F M v) {f : Fo} (h1 : f.one = true) (hw : f.wf false none = true) {r : List TApiCell} (hv : v = f.flat ++ r) : vLook F v = some ((f.flat.length : Int), f.sh 0 sh0, true) := by
 obtain ⟨o, ho, _⟩ := look_total hA
 have e := (look_fin hA h1 hw hv).eq ho
 subst e
 unfold vLook
 rw [obn_s ho]; rfl
end Go.Proofs.YtpmiamphppcfeaaDoor

/-
 Reading values of cells: a plain reader; value.look says what it says. Plain laws.
-/
namespace Go.Proofs.YtpmiamphppcfeaaDoor
open Go
set_option linter.unusedVariables false
set_option linter.unusedSimpArgs false
def prsK (m : Bool) (last : Option Str) (xs : List TApiCell) : Option (Option Str × List TApiCell) :=
 bif m then match xs with
  | [] => none
  | c :: r => bif pl c && decide (c.fKind = 4) && keyOk true last (some c.fStr) then some (some c.fStr, r) else none
 else some (none, xs)
def prs : Nat → Bool → Option Str → Nat → List TApiCell → Option (Fo × List TApiCell)
 | 0, _, _, _, _ => none
 | _ + 1, _, _, 0, xs => some (.nil, xs)
 | F + 1, m, last, k + 1, xs =>
  match prsK m last xs with
  | none => none
  | some (_, []) => none
  | some (key, c :: xs') =>
   bif !pl c then none else
   bif decide (0 < c.fN) then
    match prs F (decide (c.fKind = 6)) none c.fN.toNat xs' with
    | none => none
    | some (kids, ys) => match prs F m key k ys with
     | none => none
     | some (r, zs) => some (.node key c kids r, zs)
   else match prs F m key k xs' with
    | none => none
    | some (r, zs) => some (.cell key c r, zs)
theorem pl_key {c : TApiCell} (hp : pl c = true) (hk : c.fKind = 4) : c = ⟨4, 0, c.fStr, 0⟩ ∧ c.fStr.all okc = true := by
 cases c
 simp only at hk; subst hk
 simp [pl] at hp
 obtain ⟨h1, h2, h3⟩ := hp
 subst h1; subst h2
 exact ⟨rfl, by simpa using h3⟩
theorem prsK_ok {m : Bool} {last key : Option Str} {xs r : List TApiCell} (h : prsK m last xs = some (key, r)) : xs = keyC key ++ r ∧ keyOk m last key = true := by
 unfold prsK at h
 cases m with
 | false => cases h; exact ⟨rfl, rfl⟩
 | true =>
  simp only [cond_true] at h
  cases xs with
  | nil => cases h
  | cons c r' =>
   simp only at h
   cases hb : (pl c && decide (c.fKind = 4) && keyOk true last (some c.fStr)) with
   | false => rw [hb] at h; cases h
   | true =>
    rw [hb] at h
    simp only [Bool.and_eq_true, decide_eq_true_eq] at hb
    cases h
    exact ⟨by rw [(pl_key hb.1.1 hb.1.2).1]; rfl, hb.2⟩
theorem prs_ok : ∀ (F : Nat) (m : Bool) (last : Option Str) (k : Nat) (xs : List TApiCell) (f : Fo) (ys : List TApiCell), prs F m last k xs = some (f, ys) → xs = f.flat ++ ys ∧ f.wf m last = true ∧ f.cnt = k
 | 0, _, _, _, _, _, _, h => by cases h
 | F + 1, m, last, 0, xs, f, ys, h => by cases h; exact ⟨rfl, rfl, rfl⟩
 | F + 1, m, last, k + 1, xs, f, ys, h => by
  rw [prs] at h
  cases hk : prsK m last xs with
  | none => rw [hk] at h; cases h
  | some p =>
   obtain ⟨key, r⟩ := p
   obtain ⟨h1, h2⟩ := prsK_ok hk
   rw [hk] at h
   cases r with
   | nil => cases h
   | cons c xs' =>
    simp only at h
    cases hp : pl c with
    | false => rw [hp] at h; cases h
    | true =>
     rw [hp] at h
     simp only [Bool.not_true, cond_false] at h
     cases hn : decide (0 < c.fN) with
     | true =>
      rw [hn] at h
      simp only [cond_true] at h
      cases hq : prs F (decide (c.fKind = 6)) none c.fN.toNat xs' with
      | none => rw [hq] at h; cases h
      | some q =>
       obtain ⟨kids, zs⟩ := q
       rw [hq] at h
       simp only at h
       cases hr : prs F m key k zs with
       | none => rw [hr] at h; cases h
       | some q2 =>
        obtain ⟨r2, us⟩ := q2
        rw [hr] at h; cases h
        obtain ⟨a1, a2, a3⟩ := prs_ok F _ _ _ _ _ _ hq
        obtain ⟨b1, b2, b3⟩ := prs_ok F _ _ _ _ _ _ hr
        refine ⟨by rw [h1, a1, b1]; simp [Fo.flat], ?_, by simp [Fo.cnt, b3]⟩
        simp only [decide_eq_true_eq] at hn
        simp only [Fo.wf, h2, hp, a2, b2, Bool.and_true, Bool.true_and, Bool.and_eq_true, decide_eq_true_eq]
        omega
     | false =>
      rw [hn] at h
      simp only [cond_false] at h
      cases hr : prs F m key k xs' with
      | none => rw [hr] at h; cases h
      | some q2 =>
       obtain ⟨r2, us⟩ := q2
       rw [hr] at h; cases h
       obtain ⟨b1, b2, b3⟩ := prs_ok F _ _ _ _ _ _ hr
       exact ⟨by rw [h1, b1]; simp [Fo.flat], by simp [Fo.wf, h2, hp, b2, hn], by simp [Fo.cnt, b3]⟩
def Bad {S : Type} (body : S → Option (Stp S LkO)) (s : S) : Prop := ∃ sh', Fin body s (.ret (0, sh', false)) ∨ Fin body s (.go sh')
theorem Reach.bad {S : Type} {body : S → Option (Stp S LkO)} {s t : S} (h : Reach body s t) (h' : Bad body t) : Bad body s := by
 obtain ⟨sh', h' | h'⟩ := h'
 ·exact ⟨sh', .inl (h.fin h')⟩
 ·exact ⟨sh', .inr (h.fin h')⟩
section
variable {F M : Nat} {v : List TApiCell}
theorem Bad.end_ {S : List TValueOpen} {i : Int} {sh : TValueShape} (h0 : 0 ≤ i) (h : v.drop i.toNat = []) : Bad (lkB F v) (S.reverse, i, sh) := by
 refine ⟨sh, .inr (Fin.step ?_)⟩
 show vLook_b1 F v S.reverse i sh = _
 unfold vLook_b1
 rw [cnd_ff]
 have : v.length ≤ i.toNat := by simpa using h
 simp; omega
theorem Bad.pl_ (hA : LkA F M v) {S : List TValueOpen} {i : Int} {sh : TValueShape} {c : TApiCell} {r : List TApiCell} (h0 : 0 ≤ i) (h : v.drop i.toNat = c :: r) (hS : (S.length : Int) ≤ i) (hb : lefts S) (hp : pl c = false) : Bad (lkB F v) (S.reverse, i, sh) := by
 refine ⟨sh, .inl (Fin.step ?_)⟩
 rw [round hA h0 h hS hb]
 simp [lkc, hp]
theorem forest_bad (hA : LkA F M v) : ∀ (P : Nat) (k : Nat) (e : TValueOpen) (S : List TValueOpen) (i : Int) (sh : TValueShape) (last : Option Str) (xs : List TApiCell), xs.length < P → prs P e.fPairs last (k + 1) xs = none → e.fKey = e.fPairs → e.fLeft = (k : Int) + 1 → (k : Int) + 1 ≤ 9223372036854775807 → lastOk e last → (e.fPairs = false → last = none) → v.drop i.toNat = xs → 0 ≤ i → (S.length : Int) + 1 ≤ i → lefts S →
  Bad (lkB F v) ((e :: S).reverse, i, sh) := by
 intro P
 induction P with
 | zero => intro k e S i sh last xs h; omega
 | succ P ih =>
  intro k e S i sh last xs hP hn hk hl hkm hlo hm hv h0 hS hb
  have hb' : lefts (e :: S) := fun x hx => by
   rcases List.mem_cons.1 hx with rfl | hx
   ·constructor <;> omega
   ·exact hb x hx
  rw [prs] at hn
  cases hq : prsK e.fPairs last xs with
  | none =>
   unfold prsK at hq
   cases hpr : e.fPairs with
   | false => rw [hpr] at hq; cases hq
   | true =>
    rw [hpr] at hq hk
    simp only [cond_true] at hq
    cases xs with
    | nil => exact Bad.end_ h0 hv
    | cons c r =>
     simp only at hq
     cases hp : pl c with
     | false => exact Bad.pl_ hA h0 hv (by simpa using hS) hb' hp
     | true =>
      refine ⟨sh, .inl (Fin.step ?_)⟩
      rw [round hA h0 hv (by simpa using hS) hb']
      have ht : (!decide (c.fKind = 4) || (e.fStarted && (sLess c.fStr e.fLast || decide (c.fStr = e.fLast)))) = true := by
       rw [hp] at hq
       cases h4 : decide (c.fKind = 4) with
       | false => rfl
       | true =>
        rw [h4] at hq
        simp only [Bool.and_self, Bool.true_and] at hq
        have hok := (pl_key hp (by simpa using h4)).2
        cases last with
        | none => simp [keyOk, hok] at hq
        | some p =>
         obtain ⟨q1, q2⟩ := hlo
         rw [q1, q2]
         cases hc : (sLess c.fStr p || decide (c.fStr = p)) with
         | true => rfl
         | false => simp [keyOk, hok, hc] at hq
      simp only [lkc, hp, hk, ht, Bool.not_true, cond_false, cond_true]
  | some q =>
   obtain ⟨key, r⟩ := q
   obtain ⟨h1, h2⟩ := prsK_ok hq
   rw [hq] at hn
   have hkr := keyRound (sh := sh) hA h0 (by rw [hv]; exact h1) hS hb' (by rw [hk]; exact h2) hlo
   have hv1 := drop_app h0 (hv.trans h1)
   obtain ⟨kl, kp⟩ := keyed_left (e := e) key
   obtain ⟨q1, q2⟩ := keyed_last hlo hm h2
   have hbk : lefts (keyed e key :: S) := fun x hx => by
    rcases List.mem_cons.1 hx with rfl | hx
    ·rw [kl]; exact hb' e (by simp)
    ·exact hb x hx
   refine hkr.bad ?_
   cases r with
   | nil => exact Bad.end_ (by omega) hv1
   | cons c xs' =>
    have hlen : xs'.length + 1 ≤ xs.length := by rw [h1]; simp
    have hvl : xs.length ≤ v.length := by rw [← hv, List.length_drop]; omega
    have hvM := hA.hv; have hMM := hA.hM
    have hkk := keyed_key (e := e) (last := last) (k := key) (by rw [hk]; exact h2)
    simp only at hn
    have hSk : (((keyed e key :: S).length : Nat) : Int) ≤ i + (keyC key).length := by simp only [List.length_cons]; omega
    cases hp : pl c with
    | false => exact Bad.pl_ hA (by omega) hv1 hSk hbk hp
    | true =>
     rw [hp] at hn
     simp only [Bool.not_true, cond_false] at hn
     obtain ⟨g1, g2, g3⟩ := drop_get (by omega) hv1
     have hcN := (hA.hc c (List.mem_of_getElem? g1)).2.2
     -- what follows a whole value
     have more : ∀ (s : LkS) (j : Int) (sh' : TValueShape) (zs : List TApiCell), Done (lkB F v) s (keyed e key :: S) j sh' → v.drop j.toNat = zs → zs.length < P → 0 ≤ j → (S.length : Int) + 1 ≤ j → prs P e.fPairs key k zs = none → Bad (lkB F v) s := fun s j sh' zs hd hz hzl hj hSj hnone => by
      cases k with
      | zero =>
       cases P with
       | zero => omega
       | succ P => cases hnone
      | succ k =>
       have := hd.more (by rw [kl]; omega)
       refine this.bad (ih k _ S j sh' key zs hzl (by rw [kp]; exact hnone) rfl (by simp only [kl]; omega) (by omega) ?_ (by simpa using q2) hz hj hSj hb)
       cases key with
       | none => exact q1
       | some p => exact q1
     cases hN : decide (0 < c.fN) with
     | true =>
      rw [hN] at hn
      simp only [cond_true] at hn
      simp only [decide_eq_true_eq] at hN
      by_cases hbig : c.fN ≤ v.length
      ·have hnd := nodeRound (sh := shK key sh) hA (by omega) hv1 hSk hbk (by simpa [keyTop] using hkk) hp (by simpa using hN) hbig
       refine hnd.bad ?_
       cases hks : prs P (decide (c.fKind = 6)) none c.fN.toNat xs' with
       | none =>
        obtain ⟨n', hn'⟩ : ∃ n', c.fN.toNat = n' + 1 := ⟨c.fN.toNat - 1, by omega⟩
        rw [hn'] at hks
        exact ih n' _ _ _ _ none xs' (by omega) hks rfl (by simp only; omega) (by omega) rfl (fun _ => rfl) g2 (by omega) (by simp only [List.length_cons]; omega) hbk
       | some q =>
        obtain ⟨kids, zs⟩ := q
        rw [hks] at hn
        simp only at hn
        have hn2 : prs P e.fPairs key k zs = none := by
         cases hz : prs P e.fPairs key k zs with
         | none => rfl
         | some q => rw [hz] at hn; cases hn
        obtain ⟨a1, a2, a3⟩ := prs_ok _ _ _ _ _ _ _ hks
        have hd := forest_look hA kids ⟨decide (c.fKind = 6), c.fN, decide (c.fKind = 6), [], false⟩ (keyed e key :: S) (i + (keyC key).length + 1) (shc (S.length + 1) (shK key sh) c) none zs (by omega) a2 rfl (by simp only; omega) rfl (fun _ => rfl) (by rw [g2]; exact a1) (by omega) (by simp only [List.length_cons]; omega) hbk
        have hz : v.drop (i + (keyC key).length + 1 + kids.flat.length).toNat = zs := drop_app (by omega) (g2.trans a1)
        have hzl : zs.length ≤ xs'.length := by rw [a1]; simp
        exact more _ _ _ zs hd hz (by omega) (by omega) (by omega) hn2
      ·refine ⟨shc (keyed e key :: S).length (shK key sh) c, .inl (Fin.step ?_)⟩
       rw [round hA (by omega) hv1 hSk hbk]
       have hbig' : decide ((v.length : Int) < c.fN) = true := by simpa using hbig
       simp only [lkc, hp, hkk, hbig', hN, Bool.not_true, cond_false, cond_true, decide_true]
     | false =>
      rw [hN] at hn
      simp only [cond_false] at hn
      have hn2 : prs P e.fPairs key k xs' = none := by
       cases hz : prs P e.fPairs key k xs' with
       | none => rfl
       | some q => rw [hz] at hn; cases hn
      have hd := leafRound (sh := shK key sh) hA (by omega) hv1 hSk hbk (by simpa [keyTop] using hkk) hp hN
      exact more _ _ _ xs' hd g2 (by omega) (by omega) (by omega) hn2
def prs1 (xs : List TApiCell) : Option (Fo × List TApiCell) := prs (xs.length + 1) false none 1 xs
theorem prs_one {P : Nat} {xs ys : List TApiCell} {f : Fo} (h : prs P false none 1 xs = some (f, ys)) : f.one = true := by
 obtain ⟨h1, h2, h3⟩ := prs_ok _ _ _ _ _ _ _ h
 cases f with
 | nil => cases h3
 | cell k c r =>
  cases r with
  | nil =>
   cases k with
   | none => rfl
   | some s => simp [Fo.wf, keyOk] at h2
  | cell _ _ _ => simp [Fo.cnt] at h3
  | node _ _ _ _ => simp [Fo.cnt] at h3
 | node k c kids r =>
  cases r with
  | nil =>
   cases k with
   | none => rfl
   | some s => simp [Fo.wf, keyOk] at h2
  | cell _ _ _ => simp [Fo.cnt] at h3
  | node _ _ _ _ => simp [Fo.cnt] at h3
theorem look_bad0 (hA : LkA F M v) (h : prs1 v = none) : Bad (lkB F v) ([], 0, sh0) := by
 have hlf : lefts [] := fun x hx => by cases hx
 unfold prs1 at h
 rw [prs] at h
 simp only [prsK, cond_false] at h
 cases v with
 | nil => exact Bad.end_ (S := []) (Int.le_refl 0) rfl
 | cons c xs' =>
  have hv1 : (c :: xs').drop (0 : Int).toNat = c :: xs' := rfl
  have hvM := hA.hv; have hMM := hA.hM
  simp only at h
  cases hp : pl c with
  | false => exact Bad.pl_ (S := []) hA (Int.le_refl 0) hv1 (by simp) hlf hp
  | true =>
   rw [hp] at h
   simp only [Bool.not_true, cond_false] at h
   have hcN := (hA.hc c (by simp)).2.2
   cases hN : decide (0 < c.fN) with
   | true =>
    rw [hN] at h
    simp only [cond_true] at h
    simp only [decide_eq_true_eq] at hN
    by_cases hbig : c.fN ≤ (c :: xs').length
    ·have hnd := nodeRound (S := []) (sh := sh0) hA (Int.le_refl 0) hv1 (by simp) hlf rfl hp (by simpa using hN) hbig
     refine hnd.bad ?_
     cases hks : prs (c :: xs').length (decide (c.fKind = 6)) none c.fN.toNat xs' with
     | none =>
      obtain ⟨n', hn'⟩ : ∃ n', c.fN.toNat = n' + 1 := ⟨c.fN.toNat - 1, by omega⟩
      rw [hn'] at hks
      exact forest_bad hA (c :: xs').length n' ⟨decide (c.fKind = 6), c.fN, decide (c.fKind = 6), [], false⟩ [] (0 + 1) _ none xs' (by simp) hks rfl (by simp only; omega) (by omega) rfl (fun _ => rfl) rfl (by omega) (by simp) hlf
     | some q => rw [hks] at h; cases h
    ·refine ⟨shc 0 sh0 c, .inl (Fin.step ?_)⟩
     rw [show lkB F (c :: xs') (([] : List TValueOpen), 0, sh0) = _ from round (S := []) hA (Int.le_refl 0) hv1 (by simp) hlf]
     have hbig' : decide (((c :: xs').length : Int) < c.fN) = true := by simpa using hbig
     simp only [lkc, hp, hbig', hN, Bool.not_true, cond_false, cond_true, decide_true]
   | false => rw [hN] at h; cases h
theorem look_eq (hA : LkA F M v) : (∃ f ys, prs1 v = some (f, ys) ∧ vLook F v = some ((f.flat.length : Int), f.sh 0 sh0, true)) ∨ (prs1 v = none ∧ ∃ sh', vLook F v = some (0, sh', false)) := by
 cases h : prs1 v with
 | some q =>
  obtain ⟨f, ys⟩ := q
  obtain ⟨h1, h2, h3⟩ := prs_ok _ _ _ _ _ _ _ h
  exact .inl ⟨f, ys, rfl, look_val hA (prs_one h) h2 h1⟩
 | none =>
  refine .inr ⟨rfl, ?_⟩
  obtain ⟨o, ho, _⟩ := look_total hA
  obtain ⟨sh', hb | hb⟩ := look_bad0 hA h
  ·have e := hb.eq ho
   subst e
   exact ⟨sh', by unfold vLook; rw [obn_s ho]; rfl⟩
  ·have e := hb.eq ho
   subst e
   exact ⟨sh', by unfold vLook; rw [obn_s ho]; rfl⟩
end
end Go.Proofs.YtpmiamphppcfeaaDoor

/-
 Forests: depth, bytes, text; what value.look tells of them. Plain laws.
-/
namespace Go.Proofs.YtpmiamphppcfeaaDoor
open Go
set_option linter.unusedVariables false
set_option linter.unusedSimpArgs false
theorem wrap_id {x : Int} (h : -9223372036854775808 ≤ x) (h' : x ≤ 9223372036854775807) : IntKind.wrap .i64 x = x := by
 simp only [IntKind.wrap, IntKind.bits, IntKind.signed]
 simp
 omega
def Fo.dep : Fo → Nat
 | .nil => 0
 | .cell _ _ r => max 1 r.dep
 | .node _ _ kids r => max (kids.dep + 1) r.dep
theorem shK_depth (k : Option Str) (s : TValueShape) : (shK k s).fDepth = s.fDepth ∧ (shK k s).fOutside = s.fOutside ∧ (shK k s).fLong = (s.fLong || (keyC k).any fun c => decide (200 < (c.fStr.length : Int))) := by
 cases k with
 | none => simp [shK, keyC]
 | some x => simp [shK, shk, keyC]
theorem sh_depth : ∀ (f : Fo) (d : Nat) (s : TValueShape), (d : Int) ≤ s.fDepth → (f.sh d s).fDepth = max s.fDepth ((d : Int) + f.dep)
 | .nil, d, s, h => by simp only [Fo.sh, Fo.dep]; omega
 | .cell k c r, d, s, h => by
  have hk := (shK_depth k s).1
  have e : (shc d (shK k s) c).fDepth = max s.fDepth ((d : Int) + 1) := by rw [shc, hk]
  rw [Fo.sh, sh_depth r d _ (by rw [e]; omega), e, Fo.dep]; omega
 | .node k c kids r, d, s, h => by
  have hk := (shK_depth k s).1
  have e : (shc d (shK k s) c).fDepth = max s.fDepth ((d : Int) + 1) := by rw [shc, hk]
  have e2 := sh_depth kids (d + 1) (shc d (shK k s) c) (by rw [e]; omega)
  rw [e] at e2
  rw [Fo.sh, sh_depth r d _ (by rw [e2]; omega), e2, Fo.dep]; omega
def outC (c : TApiCell) : Bool := decide (c.fKind = 3) && !(decide ((-1000000000000) ≤ c.fInt) && decide (c.fInt ≤ 1000000000000))
def longC (c : TApiCell) : Bool := decide (200 < (c.fStr.length : Int))
theorem keyC_out (k : Option Str) : (keyC k).any outC = false := by cases k <;> simp [keyC, outC]
theorem sh_out : ∀ (f : Fo) (d : Nat) (s : TValueShape), (f.sh d s).fOutside = (s.fOutside || f.flat.any outC)
 | .nil, d, s => by simp [Fo.sh, Fo.flat]
 | .cell k c r, d, s => by
  rw [Fo.sh, sh_out r, shc, (shK_depth k s).2.1]
  simp only [Fo.flat, List.any_append, List.any_cons, keyC_out, Bool.false_or, Bool.or_assoc]
  rfl
 | .node k c kids r, d, s => by
  rw [Fo.sh, sh_out r, sh_out kids, shc, (shK_depth k s).2.1]
  simp only [Fo.flat, List.any_append, List.any_cons, keyC_out, Bool.false_or, Bool.or_assoc]
  rfl
theorem sh_long : ∀ (f : Fo) (d : Nat) (s : TValueShape), (f.sh d s).fLong = (s.fLong || f.flat.any longC)
 | .nil, d, s => by simp [Fo.sh, Fo.flat]
 | .cell k c r, d, s => by
  rw [Fo.sh, sh_long r, shc, (shK_depth k s).2.2]
  simp only [Fo.flat, List.any_append, List.any_cons, Bool.or_assoc]
  rfl
 | .node k c kids r, d, s => by
  rw [Fo.sh, sh_long r, sh_long kids, shc, (shK_depth k s).2.2]
  simp only [Fo.flat, List.any_append, List.any_cons, Bool.or_assoc]
  rfl
def lsz (c : TApiCell) : Int :=
 bif decide (c.fKind = 1) then 4 else bif decide (c.fKind = 2) then 5 - c.fInt else bif decide (c.fKind = 3) then ((Lib.itoa c.fInt).length : Int) else
 bif decide (c.fKind = 4) then qlen c.fStr else 2
def kbn : Option Str → Int
 | none => 0
 | some s => qlen s + 1
def Fo.byt : Fo → Int
 | .nil => 0
 | .cell k c r => kbn k + lsz c + r.byt
 | .node k c kids r => kbn k + (c.fN + 1) + kids.byt + r.byt
theorem qlen_pos (s : Str) : 2 ≤ qlen s := by unfold qlen; omega
theorem kbn_pos (k : Option Str) : 0 ≤ kbn k := by
 cases k with
 | none => exact Int.le_refl 0
 | some s => have := qlen_pos s; simp only [kbn]; omega
theorem lsz_pos {c : TApiCell} (hp : pl c = true) : 0 ≤ lsz c := by
 unfold lsz
 cases h1 : decide (c.fKind = 1) with
 | true => simp
 | false =>
  cases h2 : decide (c.fKind = 2) with
  | true =>
   simp [pl, h1, h2] at hp
   simp only [cond_false, cond_true]; omega
  | false =>
   cases h3 : decide (c.fKind = 3) with
   | true => simp
   | false =>
    cases h4 : decide (c.fKind = 4) with
    | true => have := qlen_pos c.fStr; simp only [cond_false, cond_true]; omega
    | false => simp
theorem pl_N {c : TApiCell} (hp : pl c = true) : 0 ≤ c.fN := by
 simp only [pl, ← Bool.decide_or] at hp
 cases h1 : decide (c.fKind = 1) <;> cases h2 : decide (c.fKind = 2) <;> cases h3 : decide (c.fKind = 3) <;> cases h4 : decide (c.fKind = 4) <;> cases h5 : decide (c.fKind = 5) <;> cases h6 : decide (c.fKind = 6) <;> simp [h1, h2, h3, h4, h5, h6] at hp <;> omega
theorem pl_node {c : TApiCell} (hp : pl c = true) (hn : 0 < c.fN) : (c.fKind = 5 ∨ c.fKind = 6) ∧ c.fInt = 0 ∧ c.fStr = [] := by
 cases h1 : decide (c.fKind = 1) <;> cases h2 : decide (c.fKind = 2) <;> cases h3 : decide (c.fKind = 3) <;> cases h4 : decide (c.fKind = 4) <;> cases h5 : decide (c.fKind = 5) <;> cases h6 : decide (c.fKind = 6) <;> simp [pl, h1, h2, h3, h4, h5, h6] at hp <;> (simp only [decide_eq_true_eq, decide_eq_false_iff_not] at *; first | omega | exact ⟨by omega, hp.1, hp.2.1⟩)
theorem szc_leaf {c : TApiCell} (hp : pl c = true) (hn : decide (0 < c.fN) = false) : szc c = lsz c := by
 have hN := pl_N hp
 have h0 : c.fN = 0 := by simp only [decide_eq_false_iff_not] at hn; omega
 unfold szc lsz
 rw [h0]
 cases h1 : decide (c.fKind = 1) with
 | true => rfl
 | false =>
  cases h2 : decide (c.fKind = 2) with
  | true =>
   simp [pl, h1, h2] at hp
   simp only [cond_false, cond_true]
   exact wrap_id (by omega) (by omega)
  | false => rfl
theorem szc_node {c : TApiCell} (hp : pl c = true) (hn : 0 < c.fN) (hm : c.fN ≤ 9223372036854775000) : szc c = c.fN + 1 := by
 obtain ⟨hk, _, _⟩ := pl_node hp hn
 unfold szc
 rw [decide_eq_false (by omega), decide_eq_false (by omega), decide_eq_false (by omega), decide_eq_false (by omega)]
 simp only [cond_false]
 rw [wrap_id (x := c.fN - 1) (by omega) (by omega), wrap_id (by omega) (by omega)]; omega
theorem byt_pos : ∀ {f : Fo} {m : Bool} {l : Option Str}, f.wf m l = true → 0 ≤ f.byt
 | .nil, _, _, _ => Int.le_refl 0
 | .cell k c r, m, l, h => by
  simp only [Fo.wf, Bool.and_eq_true] at h
  have h1 := byt_pos h.2; have h2 := lsz_pos h.1.1.2; have h3 := kbn_pos k
  simp only [Fo.byt]; omega
 | .node k c kids r, m, l, h => by
  simp only [Fo.wf, Bool.and_eq_true, decide_eq_true_eq] at h
  have h1 := byt_pos h.2; have h2 := byt_pos h.1.2; have h3 := kbn_pos k
  simp only [Fo.byt]; omega
theorem shK_bytes (k : Option Str) (s : TValueShape) (h0 : 0 ≤ s.fBytes) (h : s.fBytes + kbn k ≤ 9223372036854775807) : (shK k s).fBytes = s.fBytes + kbn k := by
 cases k with
 | none => simp [shK, kbn]
 | some x =>
  have := qlen_pos x
  simp only [kbn] at h
  simp only [shK, shk, kbn]
  exact wrap_id (by omega) (by omega)
theorem sh_bytes : ∀ (f : Fo) (m : Bool) (l : Option Str) (d : Nat) (s : TValueShape), f.wf m l = true → 0 ≤ s.fBytes → s.fBytes + f.byt ≤ 9223372036854775000 → (f.sh d s).fBytes = s.fBytes + f.byt
 | .nil, _, _, d, s, _, _, _ => by simp [Fo.sh, Fo.byt]
 | .cell k c r, m, l, d, s, hw, h0, h => by
  simp only [Fo.wf, Bool.and_eq_true, Bool.not_eq_true'] at hw
  obtain ⟨⟨⟨w1, w2⟩, w3⟩, w4⟩ := hw
  have h1 := byt_pos w4; have h2 := lsz_pos w2; have h3 := kbn_pos k
  simp only [Fo.byt] at h
  have e1 := shK_bytes k s h0 (by omega)
  have e : (shc d (shK k s) c).fBytes = s.fBytes + kbn k + lsz c := by
   rw [shc, e1, szc_leaf w2 w3]; exact wrap_id (by omega) (by omega)
  rw [Fo.sh, sh_bytes r _ _ d _ w4 (by rw [e]; omega) (by rw [e]; omega), e, Fo.byt]; omega
 | .node k c kids r, m, l, d, s, hw, h0, h => by
  simp only [Fo.wf, Bool.and_eq_true, decide_eq_true_eq] at hw
  obtain ⟨⟨⟨⟨⟨w1, w2⟩, w3⟩, w5⟩, w6⟩, w4⟩ := hw
  have h1 := byt_pos w4; have h2 := byt_pos w6; have h3 := kbn_pos k
  simp only [Fo.byt] at h
  have e1 := shK_bytes k s h0 (by omega)
  have e : (shc d (shK k s) c).fBytes = s.fBytes + kbn k + (c.fN + 1) := by
   rw [shc, e1, szc_node w2 w3 (by omega)]; exact wrap_id (by omega) (by omega)
  have e2 := sh_bytes kids _ _ (d + 1) (shc d (shK k s) c) w6 (by rw [e]; omega) (by rw [e]; omega)
  rw [Fo.sh, sh_bytes r _ _ d _ w4 (by rw [e2, e]; omega) (by rw [e2, e]; omega), e2, e, Fo.byt]; omega
def escS (s : Str) : Str := s.flatMap fun c => bif (decide (c = 34) || decide (c = 92)) then [92, c] else [c]
def quoS (s : Str) : Str := 34 :: (escS s ++ [34])
theorem escS_len : ∀ s : Str, (escS s).length = s.length + s.count 34 + s.count 92
 | [] => rfl
 | c :: s => by
  have ih := escS_len s
  unfold escS at ih ⊢
  rw [List.flatMap_cons, List.length_append, ih]
  by_cases h1 : c = 34
  ·subst h1; simp; omega
  ·by_cases h2 : c = 92
   ·subst h2; simp; omega
   ·simp [h1, h2, List.count_cons]; omega
theorem quoS_len (s : Str) : ((quoS s).length : Int) = qlen s := by
 simp only [quoS, List.length_cons, List.length_append, escS_len, List.length_nil, qlen]; omega
def leafT (c : TApiCell) : Str :=
 bif decide (c.fKind = 1) then [110, 117, 108, 108] else
 bif decide (c.fKind = 2) then (bif decide (c.fInt = 1) then [116, 114, 117, 101] else [102, 97, 108, 115, 101]) else
 bif decide (c.fKind = 3) then Lib.itoa c.fInt else
 bif decide (c.fKind = 4) then quoS c.fStr else
 bif decide (c.fKind = 6) then [123, 125] else [91, 93]
def ktx : Option Str → Str
 | none => []
 | some s => quoS s ++ [58]
def brk (c : TApiCell) (s : Str) : Str := bif decide (c.fKind = 6) then 123 :: (s ++ [125]) else 91 :: (s ++ [93])
def sepT (first : Bool) : Str := bif first then [] else [44]
def Fo.txt : Bool → Fo → Str
 | _, .nil => []
 | b, .cell k c r => sepT b ++ ktx k ++ leafT c ++ r.txt false
 | b, .node k c kids r => sepT b ++ ktx k ++ brk c (kids.txt true) ++ r.txt false
theorem ktx_len (k : Option Str) : ((ktx k).length : Int) = kbn k := by
 cases k with
 | none => rfl
 | some s => simp only [ktx, List.length_append, kbn, List.length_singleton]; have := quoS_len s; omega
theorem leafT_len {c : TApiCell} (hp : pl c = true) : ((leafT c).length : Int) = lsz c := by
  unfold leafT lsz
  cases h1 : decide (c.fKind = 1) with
  | true => rfl
  | false =>
    cases h2 : decide (c.fKind = 2) with
    | true =>
      simp [pl, h1, h2] at hp
      simp only [cond_false, cond_true]
      cases h7 : decide (c.fInt = 1) with
      | true => simp only [decide_eq_true_eq] at h7; simp [h7]
      | false => simp only [decide_eq_false_iff_not] at h7; have : c.fInt = 0 := by omega
                 simp [this]
    | false =>
      cases h3 : decide (c.fKind = 3) with
      | true => rfl
      | false =>
        cases h4 : decide (c.fKind = 4) with
        | true => simpa using quoS_len c.fStr
        | false => cases h6 : decide (c.fKind = 6) <;> rfl
theorem brk_len (c : TApiCell) (s : Str) : (brk c s).length = s.length + 2 := by
 unfold brk
 cases decide (c.fKind = 6) <;> simp
theorem txt_len : ∀ (f : Fo) (m : Bool) (l : Option Str) (b : Bool), f.wf m l = true → ((f.txt b).length : Int) = f.byt + (bif b then ((f.cnt - 1 : Nat) : Int) else (f.cnt : Int))
 | .nil, m, l, b, _ => by cases b <;> rfl
 | .cell k c r, m, l, b, hw => by
  simp only [Fo.wf, Bool.and_eq_true, Bool.not_eq_true'] at hw
  obtain ⟨⟨⟨w1, w2⟩, w3⟩, w4⟩ := hw
  have ih := txt_len r _ _ false w4
  have a := ktx_len k; have d := leafT_len w2
  simp only [cond_false] at ih
  cases b <;> simp only [Fo.txt, Fo.byt, Fo.cnt, sepT, cond_true, cond_false, List.length_append, List.length_nil, List.length_singleton] <;> omega
 | .node k c kids r, m, l, b, hw => by
  simp only [Fo.wf, Bool.and_eq_true, decide_eq_true_eq] at hw
  obtain ⟨⟨⟨⟨⟨w1, w2⟩, w3⟩, w5⟩, w6⟩, w4⟩ := hw
  have ih := txt_len r _ _ false w4
  have ih2 := txt_len kids _ _ true w6
  have a := ktx_len k; have d := brk_len c (kids.txt true)
  simp only [cond_false, cond_true] at ih ih2
  cases b <;> simp only [Fo.txt, Fo.byt, Fo.cnt, sepT, cond_true, cond_false, List.length_append, List.length_nil, List.length_singleton] <;> omega
def Fo.put (k : Option Str) : Fo → Fo → Fo
 | .cell _ c _, r => .cell k c r
 | .node _ c kids _, r => .node k c kids r
 | .nil, _ => .nil
end Go.Proofs.YtpmiamphppcfeaaDoor

/-
 The reference reads values as the plain reader does. Plain laws.
-/
namespace Go.Proofs.YtpmiamphppcfeaaDoor
open Go
set_option linter.unusedVariables false
set_option linter.unusedSimpArgs false
theorem prs1_ok {xs ys : List TApiCell} {f : Fo} (h : prs1 xs = some (f, ys)) : xs = f.flat ++ ys ∧ f.wf false none = true ∧ f.one = true :=
 ⟨(prs_ok _ _ _ _ _ _ _ h).1, (prs_ok _ _ _ _ _ _ _ h).2.1, prs_one h⟩
structure RfA (F M : Nat) (v : List TApiCell) : Prop where
 hM : M ≤ 1152921504606846976
 hv : v.length ≤ M
 hF : M < F
 hc : ∀ c ∈ v, c.fStr.length ≤ M
section
variable {M : Nat} {v : List TApiCell}
end
end Go.Proofs.YtpmiamphppcfeaaDoor

/-
 The plain reader reads each forest's cells; value.Check, and the reference's levels. Plain laws.
-/
namespace Go.Proofs.YtpmiamphppcfeaaDoor
open Go
set_option linter.unusedVariables false
set_option linter.unusedSimpArgs false
structure CkA (M : Nat) (v : List TApiCell) : Prop where
 hM : M ≤ 1000000000
 hv : v.length ≤ M
 hc : ∀ c ∈ v, c.fStr.length ≤ M ∧ inK .i64 c.fInt = true ∧ c.fN ≤ 9223372036854775807
theorem CkA.lk {M F : Nat} {v : List TApiCell} (h : CkA M v) (hF : M < F) : LkA F M v := ⟨by have := h.hM; omega, by have := h.hM; omega, h.hv, hF, h.hc⟩
theorem CkA.drop {M : Nat} {v : List TApiCell} (h : CkA M v) (k : Nat) : CkA M (v.drop k) := ⟨h.hM, by have := h.hv; rw [List.length_drop]; omega, fun c hc => h.hc c (List.mem_of_mem_drop hc)⟩
theorem CkA.take {M : Nat} {v : List TApiCell} (h : CkA M v) (k : Nat) : CkA M (v.take k) := ⟨h.hM, by have := h.hv; rw [List.length_take]; omega, fun c hc => h.hc c (List.mem_of_mem_take hc)⟩
def whole (v : List TApiCell) : Option Fo := match prs1 v with
 | some (f, []) => some f
 | _ => none
def errF (f : Fo) : Int :=
 bif f.flat.any outC then 2 else bif f.flat.any longC || (decide (200 < f.flat.length) || (decide (8 < f.dep) || decide (4000 < (f.txt true).length))) then 3 else 0
def errV (v : List TApiCell) : Int := match whole v with
 | none => 1
 | some f => errF f
theorem one_cnt {f : Fo} (h1 : f.one = true) : f.cnt = 1 := by
 cases f with
 | nil => cases h1
 | cell k c r => cases k with
  | some _ => cases h1
  | none => cases r with
   | nil => rfl
   | _ => cases h1
 | node k c kids r => cases k with
  | some _ => cases h1
  | none => cases r with
   | nil => rfl
   | _ => cases h1
theorem qlen_le (s : Str) : qlen s ≤ 2 * s.length + 2 + s.length := by
 have h1 : s.count 34 ≤ s.length := List.count_le_length
 have h2 : s.count 92 ≤ s.length := List.count_le_length
 unfold qlen; omega
theorem lsz_le {c : TApiCell} {M : Nat} (hp : pl c = true) (hs : c.fStr.length ≤ M) (hi : (Lib.itoa c.fInt).length ≤ 21) : lsz c ≤ 3 * M + 21 := by
 have := qlen_le c.fStr
 unfold lsz
 cases h1 : decide (c.fKind = 1) with
 | true => simp only [cond_true]; omega
 | false =>
  cases h2 : decide (c.fKind = 2) with
  | true =>
   simp [pl, h1, h2] at hp
   simp only [cond_false, cond_true]; omega
  | false =>
   cases h3 : decide (c.fKind = 3) with
   | true => simp only [cond_false, cond_true]; omega
   | false => cases h4 : decide (c.fKind = 4) <;> simp only [cond_false, cond_true] <;> omega
theorem byt_le {M : Nat} : ∀ {f : Fo} {m : Bool} {l : Option Str}, f.wf m l = true → (∀ c ∈ f.flat, c.fStr.length ≤ M ∧ inK .i64 c.fInt = true ∧ c.fN ≤ 9223372036854775807) → f.byt + f.cnt ≤ (3 * M + 24) * f.flat.length
 | .nil, _, _, _, _ => by simp [Fo.byt, Fo.flat, Fo.cnt]
 | .cell k c r, m, l, hw, hc => by
  simp only [Fo.wf, Bool.and_eq_true, Bool.not_eq_true'] at hw
  obtain ⟨⟨⟨w1, w2⟩, w3⟩, w4⟩ := hw
  simp only [Fo.flat] at hc
  have ih := byt_le w4 (fun x hx => hc x (by simp [hx]))
  obtain ⟨c1, c2, c3⟩ := hc c (by simp)
  have i64 := inK_i64 c2
  have hl := lsz_le w2 c1 (Lib.itoa_length_le c.fInt i64.1 i64.2)
  have hk : kbn k ≤ (3 * M + 24) * (keyC k).length := by
   cases k with
   | none => simp [kbn, keyC]
   | some s =>
    have := (hc ⟨4, 0, s, 0⟩ (by simp [keyC])).1
    have h2 := qlen_le s
    simp only at this
    simp only [kbn, keyC, List.length_singleton]; omega
  simp only [Fo.byt, Fo.flat, Fo.cnt, List.length_append, List.length_cons]
  have e : ((3 * (M : Int) + 24) * (((keyC k).length + (r.flat.length + 1) : Nat) : Int)) = (3 * (M : Int) + 24) * (keyC k).length + ((3 * (M : Int) + 24) * r.flat.length + (3 * (M : Int) + 24)) := by
   push_cast; rw [Int.mul_add, Int.mul_add, Int.mul_one]
  rw [e]
  push_cast at *
  omega
 | .node k c kids r, m, l, hw, hc => by
  simp only [Fo.wf, Bool.and_eq_true, decide_eq_true_eq] at hw
  obtain ⟨⟨⟨⟨⟨w1, w2⟩, w3⟩, w5⟩, w6⟩, w4⟩ := hw
  simp only [Fo.flat] at hc
  have ih := byt_le w4 (fun x hx => hc x (by simp [hx]))
  have ih2 := byt_le w6 (fun x hx => hc x (by simp [hx]))
  have hcf := cnt_le_flat kids
  have hk : kbn k ≤ (3 * M + 24) * (keyC k).length := by
   cases k with
   | none => simp [kbn, keyC]
   | some s =>
    have := (hc ⟨4, 0, s, 0⟩ (by simp [keyC])).1
    have h2 := qlen_le s
    simp only at this
    simp only [kbn, keyC, List.length_singleton]; omega
  simp only [Fo.byt, Fo.flat, Fo.cnt, List.length_append, List.length_cons]
  have e : ((3 * (M : Int) + 24) * (((keyC k).length + (kids.flat.length + r.flat.length + 1) : Nat) : Int)) = (3 * (M : Int) + 24) * (keyC k).length + ((3 * (M : Int) + 24) * kids.flat.length + (3 * (M : Int) + 24) * r.flat.length + (3 * (M : Int) + 24)) := by
   push_cast; rw [Int.mul_add, Int.mul_add, Int.mul_add, Int.mul_one]
  rw [e]
  push_cast at *
  omega
theorem byt_bound {M : Nat} (hM : M ≤ 1000000) {f : Fo} {m : Bool} {l : Option Str} (hw : f.wf m l = true) (hl : f.flat.length ≤ M) (hc : ∀ c ∈ f.flat, c.fStr.length ≤ M ∧ inK .i64 c.fInt = true ∧ c.fN ≤ 9223372036854775807) : f.byt ≤ 4000000000000 := by
 have := byt_le (M := M) hw hc
 have h2 : (3 * M + 24) * f.flat.length ≤ (3 * 1000000 + 24) * 1000000 := Nat.mul_le_mul (by omega) (by omega)
 have h3 : (((3 * M + 24) * f.flat.length : Nat) : Int) = (3 * (M : Int) + 24) * f.flat.length := by push_cast; rfl
 omega
theorem vCheck_eq {M F : Nat} {v : List TApiCell} (hA : CkA M v) (hM : M ≤ 1000000) (hF : M < F) : vCheck F v = some (errV v) := by
 unfold vCheck errV whole
 have hvM := hA.hv
 rcases look_eq (hA.lk hF) with ⟨f, ys, hp, hl⟩ | ⟨hp, sh', hl⟩
 ·rw [hl, obn_s rfl, hp]
  obtain ⟨h1, h2, h3⟩ := prs1_ok hp
  have hlen : v.length = f.flat.length + ys.length := by rw [h1]; simp
  cases ys with
  | cons c r =>
   rw [cnd_tt]
   simp only [List.length_cons] at hlen
   simp; omega
  | nil =>
   simp only [List.length_nil, Nat.add_zero] at hlen
   rw [cnd_ff (by simp [hlen])]
   have hc : ∀ c ∈ f.flat, c.fStr.length ≤ M ∧ inK .i64 c.fInt = true ∧ c.fN ≤ 9223372036854775807 := fun c hc => hA.hc c (by rw [h1]; simp [hc])
   have hb := byt_bound hM h2 (by omega) hc
   have hb0 := byt_pos h2
   have e1 : (f.sh 0 sh0).fOutside = f.flat.any outC := by rw [sh_out]; rfl
   have e2 : (f.sh 0 sh0).fLong = f.flat.any longC := by rw [sh_long]; rfl
   have e3 : (f.sh 0 sh0).fDepth = f.dep := by rw [sh_depth f 0 sh0 (by simp [sh0])]; simp [sh0]
   have e4 : (f.sh 0 sh0).fBytes = (f.txt true).length := by
    rw [sh_bytes f false none 0 sh0 h2 (by simp [sh0]) (by simp [sh0]; omega), txt_len f false none true h2, one_cnt h3]; simp [sh0]
   simp only
   rw [e1, e2, e3, e4, hlen]
   unfold errF
   cases f.flat.any outC with
   | true => rw [cnd_tt rfl]; rfl
   | false =>
    rw [cnd_ff rfl]
    have a1 : decide ((200 : Int) < (f.flat.length : Int)) = decide (200 < f.flat.length) := by rw [Bool.eq_iff_iff]; simp; omega
    have a2 : decide ((8 : Int) < (f.dep : Int)) = decide (8 < f.dep) := by rw [Bool.eq_iff_iff]; simp; omega
    have a3 : decide ((4000 : Int) < ((f.txt true).length : Int)) = decide (4000 < (f.txt true).length) := by rw [Bool.eq_iff_iff]; simp; omega
    rw [a1, a2, a3]
    cases (f.flat.any longC || (decide (200 < f.flat.length) || (decide (8 < f.dep) || decide (4000 < (f.txt true).length)))) <;> rfl
 ·rw [hl, obn_s rfl, hp]; rfl
end Go.Proofs.YtpmiamphppcfeaaDoor

/-
 The reference's levels and texts of a forest. Plain laws.
-/
namespace Go.Proofs.YtpmiamphppcfeaaDoor
open Go
set_option linter.unusedVariables false
set_option linter.unusedSimpArgs false
section
variable {M : Nat} {v : List TApiCell}
end
end Go.Proofs.YtpmiamphppcfeaaDoor

/-
 The reference's text of a forest. Plain laws.
-/
namespace Go.Proofs.YtpmiamphppcfeaaDoor
open Go
set_option linter.unusedVariables false
set_option linter.unusedSimpArgs false
theorem oute_go {R V : Type} (K : V → Option R) (v : V) : oute K (.go v) = K v := rfl
theorem oute_ret {R V : Type} (K : V → Option R) (r : R) : oute K (.ret r) = some r := rfl
section
variable {M : Nat} {v : List TApiCell}
end
end Go.Proofs.YtpmiamphppcfeaaDoor

/-
 The reference's text of a whole value; its check. Plain laws.
-/
namespace Go.Proofs.YtpmiamphppcfeaaDoor
open Go
set_option linter.unusedVariables false
set_option linter.unusedSimpArgs false
section
variable {M : Nat} {v : List TApiCell}
theorem ov_some {α : Type} [Inhabited α] (a : α) : ov (some a) = a := rfl
end
end Go.Proofs.YtpmiamphppcfeaaDoor

/-
 value.Encode writes the text of a value. Plain laws.
-/
namespace Go.Proofs.YtpmiamphppcfeaaDoor
open Go
set_option linter.unusedVariables false
set_option linter.unusedSimpArgs false
section
variable {M : Nat}
end
end Go.Proofs.YtpmiamphppcfeaaDoor

/-
 value.Encode is the reference's. Plain laws.
-/
namespace Go.Proofs.YtpmiamphppcfeaaDoor
open Go
set_option linter.unusedVariables false
set_option linter.unusedSimpArgs false
section
variable {M : Nat}
end
end Go.Proofs.YtpmiamphppcfeaaDoor

/-
 Small functions of the laws of the package value. Plain laws.
-/
namespace Go.Proofs.YtpmiamphppcfeaaDoor
open Go
set_option linter.unusedVariables false
set_option linter.unusedSimpArgs false
def smallV (v : List TApiCell) : Bool := !decide (300 < v.length) && v.all fun c => !decide (300 < c.fStr.length)
def okCell (c : TApiCell) : Bool := inK .i64 c.fKind && inK .i64 c.fInt && okS c.fStr && inK .i64 c.fN
theorem CkA.of {v : List TApiCell} (hs : smallV v = true) (hc : v.all okCell = true) : CkA 300 v := by
 unfold smallV at hs
 simp only [Bool.and_eq_true, Bool.not_eq_true', decide_eq_false_iff_not, List.all_eq_true] at hs hc
 refine ⟨by decide, by omega, fun c h => ?_⟩
 obtain h1 := hs.2 c h
 obtain h2 := hc c h
 unfold okCell at h2
 simp only [Bool.and_eq_true] at h2
 exact ⟨by omega, h2.1.1.2, (inK_i64 h2.2).2⟩
theorem imp_tt (a : Bool) : imp a true = true := by cases a <;> rfl
end Go.Proofs.YtpmiamphppcfeaaDoor

/-
 What laws on value and its reference lean on. Plain laws.
-/
namespace Go.Proofs.YtpmiamphppcfeaaDoor
open Go
set_option linter.unusedVariables false
set_option linter.unusedSimpArgs false
section
variable {M : Nat}
end
end Go.Proofs.YtpmiamphppcfeaaDoor

/-
 Frames: fields packed into bytes and unpacked; program and reference alike. Plain laws.
-/
namespace Go.Proofs.YtpmiamphppcfeaaDoor
open Go
set_option linter.unusedVariables false
set_option linter.unusedSimpArgs false
theorem chk_inA16 {α : Type} {n : Nat} {x : Option α} (h : n ≤ 1000000000) : chk (inA 16 n) x = x := chk_t (decide_eq_true (by omega))
/-! ### Unpacked -/
/-! ### Round trips -/
end Go.Proofs.YtpmiamphppcfeaaDoor

/-
 Texts of values: a plain reader of bytes. Plain definitions and laws.
-/
namespace Go.Proofs.YtpmiamphppcfeaaDoor
open Go
set_option linter.unusedVariables false
set_option linter.unusedSimpArgs false
def pre : Str → Str → Option Str
 | [], s => some s
 | c :: w, d :: s => bif decide (c = d) then pre w s else none
 | _ :: _, [] => none
end Go.Proofs.YtpmiamphppcfeaaDoor

/-
 The plain reader of bytes: what it leaves is shorter; numbers. Plain laws.
-/
namespace Go.Proofs.YtpmiamphppcfeaaDoor
open Go
set_option linter.unusedVariables false
set_option linter.unusedSimpArgs false
/-! ### numbers -/
end Go.Proofs.YtpmiamphppcfeaaDoor

/-
 value's reader: words, strings, integers, told by the plain reader of bytes. Plain laws.
-/
namespace Go.Proofs.YtpmiamphppcfeaaDoor
open Go
set_option linter.unusedVariables false
set_option linter.unusedSimpArgs false
def Suf (u S : Str) : Prop := ∃ p, S = p ++ u
theorem Suf.len {u S : Str} (h : Suf u S) : u.length ≤ S.length := by obtain ⟨p, rfl⟩ := h; simp
theorem Suf.tail {c : UInt8} {r S : Str} (h : Suf (c :: r) S) : Suf r S := by obtain ⟨p, rfl⟩ := h; exact ⟨p ++ [c], by simp⟩
theorem Suf.drop {u S : Str} (h : Suf u S) : S.drop (Int.toNat ((S.length : Int) - u.length)) = u := by
 obtain ⟨p, rfl⟩ := h
 rw [show Int.toNat (((p ++ u).length : Int) - u.length) = p.length from by rw [List.length_append]; omega, List.drop_left]
end Go.Proofs.YtpmiamphppcfeaaDoor

/-
 value's reader: integers and scalars. Plain laws.
-/
namespace Go.Proofs.YtpmiamphppcfeaaDoor
open Go
set_option linter.unusedVariables false
set_option linter.unusedSimpArgs false
end Go.Proofs.YtpmiamphppcfeaaDoor

/-
 value's reader of values, told by the plain reader of bytes. Plain laws.
-/
namespace Go.Proofs.YtpmiamphppcfeaaDoor
open Go
set_option linter.unusedVariables false
set_option linter.unusedSimpArgs false
end Go.Proofs.YtpmiamphppcfeaaDoor

/-
 value's reader of values does what the plain reader of bytes does. Plain laws.
-/
namespace Go.Proofs.YtpmiamphppcfeaaDoor
open Go
set_option linter.unusedVariables false
set_option linter.unusedSimpArgs false
end Go.Proofs.YtpmiamphppcfeaaDoor

/-
 The reference's reader: words, strings, integers, told by the plain reader of bytes. Plain laws.
-/
namespace Go.Proofs.YtpmiamphppcfeaaDoor
open Go
set_option linter.unusedVariables false
set_option linter.unusedSimpArgs false
/-! ### integers -/
end Go.Proofs.YtpmiamphppcfeaaDoor

/-
 The reference's reader of values does what the plain reader of bytes does. Plain laws.
-/
namespace Go.Proofs.YtpmiamphppcfeaaDoor
open Go
set_option linter.unusedVariables false
set_option linter.unusedSimpArgs false
def hd (m : Bool) (N : Int) : TApiCell := ⟨bif m then 6 else 5, 0, [], N⟩
end Go.Proofs.YtpmiamphppcfeaaDoor

/-
 The reference's reader of values: all of it. Plain laws.
-/
namespace Go.Proofs.YtpmiamphppcfeaaDoor
open Go
set_option linter.unusedVariables false
set_option linter.unusedSimpArgs false
end Go.Proofs.YtpmiamphppcfeaaDoor

/-
 The two ways to read: what is read strictly is what is well-formed. Plain laws.
-/
namespace Go.Proofs.YtpmiamphppcfeaaDoor
open Go
set_option linter.unusedVariables false
set_option linter.unusedSimpArgs false
def plr (c : TApiCell) : Bool := bif decide (c.fKind = 4) then decide (c.fInt = 0) && decide (c.fN = 0) else pl c
def Fo.rw : Bool → Fo → Bool
 | _, .nil => true
 | m, .cell k c r => (k.isSome == m) && plr c && !decide (0 < c.fN) && r.rw m
 | m, .node k c kids r => (k.isSome == m) && plr c && decide (0 < c.fN) && decide (c.fN = kids.cnt) && kids.rw (decide (c.fKind = 6)) && r.rw m
end Go.Proofs.YtpmiamphppcfeaaDoor

/-
 Decode of any string: value's is the reference's. Plain laws.
-/
namespace Go.Proofs.YtpmiamphppcfeaaDoor
open Go
set_option linter.unusedVariables false
set_option linter.unusedSimpArgs false
def cellB (K : Nat) (c : TApiCell) : Prop := c.fStr.length ≤ K ∧ inK .i64 c.fInt = true ∧ c.fN ≤ (K : Int)
theorem cellB.mono {K K' : Nat} {c : TApiCell} (h : cellB K c) (hk : K ≤ K') : cellB K' c := ⟨by have := h.1; omega, h.2.1, by have := h.2.2; omega⟩
end Go.Proofs.YtpmiamphppcfeaaDoor

/-
 Numbers and strings: their texts, read again, and what was read, written again. Plain laws.
-/
namespace Go.Proofs.YtpmiamphppcfeaaDoor
open Go
set_option linter.unusedVariables false
set_option linter.unusedSimpArgs false
end Go.Proofs.YtpmiamphppcfeaaDoor

/-
 A number that was read is written as it stood. Plain laws.
-/
namespace Go.Proofs.YtpmiamphppcfeaaDoor
open Go
set_option linter.unusedVariables false
set_option linter.unusedSimpArgs false
end Go.Proofs.YtpmiamphppcfeaaDoor

/-
 The text of a value is read as the value; what was read is written as it was. Plain laws.
-/
namespace Go.Proofs.YtpmiamphppcfeaaDoor
open Go
set_option linter.unusedVariables false
set_option linter.unusedSimpArgs false
end Go.Proofs.YtpmiamphppcfeaaDoor

/-
 Texts of values read and written again; cells compared. Plain laws (for seats that lack the rest of the package value).
-/
namespace Go.Proofs.YtpmiamphppcfeaaDoor
open Go Go.RowKit
set_option linter.unusedVariables false
set_option linter.unusedSimpArgs false
theorem take_eq_len {α : Type} {a b : List α} {n : Nat} (h : a.take n = b.take n) (h1 : a.length ≤ n) (h2 : b.length ≤ n) : a = b := by
 rw [List.take_of_length_le h1, List.take_of_length_le h2] at h; exact h
theorem slEqual_eq {F : Nat} {a b : List TApiCell} (hF : a.length < F) (hv : a.length ≤ 1152921504606846976) : slEqual F a b = some (decide (a = b)) := by
 unfold slEqual
 by_cases hl : (a.length : Int) = (b.length : Int)
 ·rw [cnd_ff (by simp [hl])]
  obtain ⟨o, h1, h2⟩ := lop_ind (body := fun σ => slEqual_b1 a b σ) (fun x => 0 ≤ x ∧ x ≤ (a.length : Int) ∧ a.take x.toNat = b.take x.toNat) (fun x => a.length - x.toNat) (fun o => oute (fun _ => slEqual_k1) o = some (decide (a = b))) (fun x ⟨h0, hx, ht⟩ => by
   by_cases h : x < (a.length : Int)
   ·have hb : x < (b.length : Int) := by omega
    obtain ⟨c, hc⟩ : ∃ c, a[x.toNat]? = some c := ⟨a[x.toNat]'(by omega), List.getElem?_eq_getElem (by omega)⟩
    obtain ⟨d, hd⟩ : ∃ d, b[x.toNat]? = some d := ⟨b[x.toNat]'(by omega), List.getElem?_eq_getElem (by omega)⟩
    have ac : at' a x = c := by simp [at', hc]
    have bd : at' b x = d := by simp [at', hd]
    have heq : (decide (c.fKind = d.fKind) && decide (c.fInt = d.fInt) && decide (c.fStr = d.fStr) && decide (c.fN = d.fN)) = decide (c = d) := by
     cases c; cases d
     rw [Bool.eq_iff_iff]
     simp only [TApiCell.mk.injEq, Bool.and_eq_true, decide_eq_true_eq]
     constructor
     ·rintro ⟨⟨⟨h1, h2⟩, h3⟩, h4⟩; exact ⟨h1, h2, h3, h4⟩
     ·rintro ⟨h1, h2, h3, h4⟩; exact ⟨⟨⟨h1, h2⟩, h3⟩, h4⟩
    have hb1 : slEqual_b1 a b x = cnd (!decide (c = d)) (some (.out (.ret false))) (some (.next (x + 1))) := by
     unfold slEqual_b1
     rw [cnd_tt (decide_eq_true h), chk_inR h0 h, chk_inR h0 hb, ac, bd, heq, chk_i64 (by omega) (by omega)]
    by_cases hcd : c = d
    ·refine .inl ⟨x + 1, hb1.trans (by rw [cnd_ff (by simp [hcd])]), ⟨by omega, by omega, ?_⟩, by omega⟩
     rw [show (x + 1).toNat = x.toNat + 1 from by omega, List.take_add_one, List.take_add_one, ht, hc, hd, hcd]
    ·refine .inr ⟨.ret false, hb1.trans (by rw [cnd_tt (by simp [hcd])]), ?_⟩
     rw [oute_ret, decide_eq_false]
     intro e; subst e; rw [hc] at hd; cases hd; exact hcd rfl
   ·refine .inr ⟨.go (), by unfold slEqual_b1; rw [cnd_ff (decide_eq_false h)], ?_⟩
    rw [oute_go, decide_eq_true (take_eq_len ht (by omega) (by omega))]; rfl) F 0 ⟨Int.le_refl 0, by omega, rfl⟩ (by show a.length - 0 < F; omega)
  rw [obn_s h1, h2]
 ·rw [cnd_tt (by simp [hl]), decide_eq_false]
  intro e; subst e; exact hl rfl
section
variable {M : Nat} {v : List TApiCell}
end
end Go.Proofs.YtpmiamphppcfeaaDoor

/-
 Events: Check, Encode and Decode of the package and of its reference. Plain laws.
-/
namespace Go.Proofs.YtpmiamphppcfeaaDoor
open Go
set_option linter.unusedVariables false
set_option linter.unusedSimpArgs false
structure EvA (M : Nat) (e : TApiEvent) : Prop where
 hb : CkA M e.fBody
 h1 : e.fID.length ≤ 1000000
 h2 : e.fTenant.length ≤ 1000000
 h3 : e.fSource.length ≤ 1000000
 h4 : e.fKey.length ≤ 1000000
 h5 : e.fCause.length ≤ 1000000
 h6 : -9223372036854775808 ≤ e.fAt ∧ e.fAt ≤ 9223372036854775807
def optS (s : Str) : Bool := decide (s = []) || idS s
def idsE (e : TApiEvent) : Bool := idS e.fID && (idS e.fTenant && (idS e.fSource && (optS e.fKey && optS e.fCause)))
def errE (e : TApiEvent) : Int := bif !idsE e then 4 else bif decide (e.fAt < 0) || decide (1073741824 < e.fAt) then 2 else errV e.fBody
theorem eCheck_eq {M : Nat} {e : TApiEvent} (hA : EvA M e) (hM : M ≤ 4000) : eCheck 20000 e = some (errE e) := by
 unfold eCheck errE
 rw [vCheck_eq hA.hb (by omega) (by omega)]
 have key : ((!(idS e.fID)) || ((!(idS e.fTenant)) || ((!(idS e.fSource)) || (bif !decide (e.fKey = ([] : Str)) then ((!(idS e.fKey)) || ((!decide (e.fCause = ([] : Str))) && (!(idS e.fCause)))) else ((!decide (e.fCause = ([] : Str))) && (!(idS e.fCause))))))) = !idsE e := by
  unfold idsE optS
  cases idS e.fID <;> cases idS e.fTenant <;> cases idS e.fSource <;> cases decide (e.fKey = []) <;> cases idS e.fKey <;> cases decide (e.fCause = []) <;> cases idS e.fCause <;> rfl
 rw [key]
 cases idsE e with
 | false => rfl
 | true =>
  rw [cnd_ff (p := !true) rfl]
  cases (decide (e.fAt < 0) || decide (1073741824 < e.fAt)) <;> rfl
theorem imp_c (a : Bool) {b : Bool} (h : b = true) : imp a b = true := by subst h; exact imp_tt a
theorem in1 {n : Nat} (h : n ≤ 1000000) : inA 1 n = true := decide_eq_true (by omega)
theorem errE_body {e : TApiEvent} (h : errE e = 0) : idsE e = true ∧ 0 ≤ e.fAt ∧ e.fAt ≤ 1073741824 ∧ errV e.fBody = 0 := by
 unfold errE at h
 cases h1 : idsE e with
 | false => rw [h1] at h; cases h
 | true =>
  rw [h1] at h
  cases h2 : (decide (e.fAt < 0) || decide (1073741824 < e.fAt)) with
  | true => rw [h2] at h; cases h
  | false =>
   rw [h2] at h
   simp only [Bool.or_eq_false_iff, decide_eq_false_iff_not] at h2
   exact ⟨rfl, by omega, by omega, h⟩
/-! ### Decode -/
def zE : TApiEvent := TApiEvent.mk [] [] [] [] 0 [] []
/-! ### Same -/
theorem same_ev (a b : TApiEvent) : ((decide (a.fID = b.fID)) && ((decide (a.fTenant = b.fTenant)) && ((decide (a.fSource = b.fSource)) && ((decide (a.fKey = b.fKey)) && ((decide (a.fAt = b.fAt)) && ((decide (a.fCause = b.fCause)) && decide (a.fBody = b.fBody))))))) = decide (a = b) := by
 obtain ⟨a1, a2, a3, a4, a5, a6, a7⟩ := a
 obtain ⟨b1, b2, b3, b4, b5, b6, b7⟩ := b
 rw [Bool.eq_iff_iff]
 simp only [TApiEvent.mk.injEq, Bool.and_eq_true, decide_eq_true_eq]
theorem eSame_eq {a b : TApiEvent} (ha : a.fBody.length < 20000) : eSame 20000 a b = some (decide (a = b)) := by
 unfold eSame
 rw [slEqual_eq ha (by omega)]
 simp only [Option.isSome_some]
 rw [chk_t (imp_c _ (imp_c _ (imp_c _ (imp_c _ (imp_c _ (imp_c _ rfl)))))), ov_some, same_ev]
theorem evAwake_ok : evAwake 20000 = some true := by decide +kernel
end Go.Proofs.YtpmiamphppcfeaaDoor

/-
 Events: sizes, children, orders and lineages, of the package and of its reference. Plain laws.
-/
namespace Go.Proofs.YtpmiamphppcfeaaDoor
open Go
set_option linter.unusedVariables false
set_option linter.unusedSimpArgs false
/-! ### Sizes -/
def smallB (v : List TApiCell) : Bool := !decide (250 < v.length) && v.all fun c => !decide (250 < c.fStr.length)
theorem evBody_eq {F : Nat} {v : List TApiCell} (hF : 250 < F) : evBody F v = some (smallB v) := by
 unfold evBody smallB
 have a1 : decide ((250 : Int) < (v.length : Int)) = decide (250 < v.length) := by rw [Bool.eq_iff_iff]; simp; omega
 rw [a1]
 cases hl : decide (250 < v.length) with
 | true => rfl
 | false =>
  simp only [decide_eq_false_iff_not] at hl
  rw [cnd_ff rfl]
  obtain ⟨o, h1, h2⟩ := lop_ind (body := fun σ => evBody_b1 v σ) (fun x => 0 ≤ x ∧ x ≤ (v.length : Int) ∧ (v.take x.toNat).all (fun c => !decide (250 < c.fStr.length)) = true) (fun x => v.length - x.toNat)
   (fun o => oute (fun _ => evBody_k1) o = some (v.all fun c => !decide (250 < c.fStr.length))) (fun x ⟨h0, hlx, ha⟩ => by
    by_cases hx : x < (v.length : Int)
    ·obtain ⟨c, hc⟩ : ∃ c, v[x.toNat]? = some c := ⟨v[x.toNat]'(by omega), List.getElem?_eq_getElem (by omega)⟩
     have hat : at' v x = c := by simp [at', hc]
     have a2 : decide ((250 : Int) < (c.fStr.length : Int)) = decide (250 < c.fStr.length) := by rw [Bool.eq_iff_iff]; simp; omega
     have hb : evBody_b1 v x = cnd (decide (250 < c.fStr.length)) (some (.out (.ret false))) (some (.next (x + 1))) := by
      unfold evBody_b1
      rw [cnd_tt (decide_eq_true hx), chk_inR h0 hx, hat, a2, chk_i64 (by omega) (by omega)]
     cases hq : decide (250 < c.fStr.length) with
     | true =>
      refine .inr ⟨.ret false, hb.trans (cnd_tt hq), ?_⟩
      have : v.all (fun c => !decide (250 < c.fStr.length)) = false := all_false_of hc (by simp only [hq]; rfl)
      rw [oute_ret, this]
     | false =>
      have a3 : (v.take (x + 1).toNat).all (fun c => !decide (250 < c.fStr.length)) = true := by
       rw [show (x + 1).toNat = x.toNat + 1 from by omega, take_all_succ hc, ha]; simp only [hq]; rfl
      exact .inl ⟨x + 1, hb.trans (cnd_ff hq), ⟨by omega, by omega, a3⟩, by omega⟩
    ·refine .inr ⟨.go (), by unfold evBody_b1; rw [cnd_ff (decide_eq_false hx)], ?_⟩
     rw [show x.toNat = v.length from by omega, List.take_length] at ha
     rw [oute_go, ha]; rfl) F 0 ⟨Int.le_refl 0, by omega, by simp⟩ (by show v.length - 0 < F; omega)
  rw [obn_s h1, h2]; rfl
def shortE (e : TApiEvent) : Bool := !(decide (100 < e.fID.length) || (decide (100 < e.fTenant.length) || (decide (100 < e.fSource.length) || (decide (100 < e.fKey.length) || decide (100 < e.fCause.length)))))
def smallE (e : TApiEvent) : Bool := shortE e && smallB e.fBody
theorem dec100 (f : Str) : decide ((100 : Int) < (f.length : Int)) = decide (100 < f.length) := by rw [Bool.eq_iff_iff]; simp; omega
theorem evSmall_eq {F : Nat} {e : TApiEvent} (hF : 250 < F) : evSmall F e = some (smallE e) := by
 unfold evSmall smallE
 rw [evBody_eq hF, dec100, dec100, dec100, dec100, dec100]
 unfold shortE
 cases (decide (100 < e.fID.length) || (decide (100 < e.fTenant.length) || (decide (100 < e.fSource.length) || (decide (100 < e.fKey.length) || decide (100 < e.fCause.length))))) <;> rfl
theorem CkA.ofB {v : List TApiCell} (hs : smallB v = true) (hc : v.all okCell = true) : CkA 250 v := by
 unfold smallB at hs
 simp only [Bool.and_eq_true, Bool.not_eq_true', decide_eq_false_iff_not, List.all_eq_true] at hs hc
 refine ⟨by decide, by omega, fun c h => ?_⟩
 obtain h1 := hs.2 c h
 obtain h2 := hc c h
 unfold okCell at h2
 simp only [Bool.and_eq_true] at h2
 exact ⟨by omega, h2.1.1.2, (inK_i64 h2.2).2⟩
def okEv (y : TApiEvent) : Bool := okS y.fID && okS y.fTenant && okS y.fSource && okS y.fKey && (inK .i64) y.fAt && okS y.fCause && (fun ys : (List TApiCell) => ys.all okCell && decide (ys.length ≤ 9223372036854775807)) y.fBody
theorem EvA.of {e : TApiEvent} (hs : smallE e = true) (ho : okEv e = true) : EvA 250 e := by
 unfold smallE shortE at hs
 unfold okEv at ho
 simp only [Bool.and_eq_true, Bool.not_eq_true', Bool.or_eq_false_iff, decide_eq_false_iff_not] at hs ho
 obtain ⟨⟨a1, a2, a3, a4, a5⟩, a6⟩ := hs
 exact ⟨CkA.ofB a6 ho.2.1, by omega, by omega, by omega, by omega, by omega, inK_i64 ho.1.1.2⟩
/-! ### Children -/
def kidE (e : TApiEvent) (n : Int) (source : Str) (body : List TApiCell) (at_ : Int) : TApiEvent := TApiEvent.mk (childV e.fID n) e.fTenant source e.fKey at_ e.fID body
def chiE (e : TApiEvent) (n : Int) (source : Str) (body : List TApiCell) (at_ : Int) : TApiEvent × Int :=
 bif !decide (errE e = 0) then (zE, errE e) else bif !decide (childE e.fID n = 0) then (zE, childE e.fID n)
 else bif !decide (errE (kidE e n source body at_) = 0) then (zE, errE (kidE e n source body at_)) else (kidE e n source body at_, 0)
theorem kid_A {M : Nat} {e : TApiEvent} {n : Int} {source : Str} {body : List TApiCell} {at_ : Int} (hA : EvA M e) (hs : source.length ≤ 1000000) (hb : CkA M body) (ha : inK .i64 at_ = true) : EvA M (kidE e n source body at_) :=
 ⟨hb, Nat.le_trans (childV_len _ _) (by decide), hA.h2, hs, hA.h4, hA.h1, inK_i64 ha⟩
theorem cloneN_eq {v : List TApiCell} (h : v.length ≤ 1000000) : cloneN v = some v := by
 unfold cloneN
 rw [chk_t (show inA 40 _ = true from decide_eq_true (by simp; omega))]; rfl
section
variable {M : Nat} {e : TApiEvent} {n : Int} {source : Str} {body : List TApiCell} {at_ : Int}
theorem eChild_eq (hA : EvA M e) (hM : M ≤ 4000) (hn : inK .i64 n = true) (hs : source.length ≤ 1000000) (hb : CkA M body) (ha : inK .i64 at_ = true) : eChild 20000 e n source body at_ = some (chiE e n source body at_) := by
 unfold eChild chiE
 have hbv := hb.hv
 rw [eCheck_eq hA hM, obn_s rfl]
 cases h : decide (errE e = 0) with
 | false => rfl
 | true =>
  rw [cnd_ff (p := !true) rfl, chk_t (in1 hA.h1), chk_t hn]
  simp only [Bool.not_true, cond_false]
  cases h2 : decide (childE e.fID n = 0) with
  | false => rfl
  | true =>
   rw [cnd_ff (p := !true) rfl, cloneN_eq (by omega), obn_s rfl]
   have := eCheck_eq (kid_A (n := n) hA hs hb ha) hM
   unfold kidE at this ⊢
   rw [this, obn_s rfl]
   simp only [Bool.not_true, cond_false]
   cases decide (errE (TApiEvent.mk (childV e.fID n) e.fTenant source e.fKey at_ e.fID body) = 0) <;> rfl
end
/-! ### The order -/
/-! ### Lineages -/
def linT : Nat → Str → List Str
 | 0, _ => []
 | n + 1, t => bif parOk t then parP t :: linT n (parP t) else []
theorem parP_lt {t : Str} (h : parOk t = true) : (parP t).length < t.length := by
 unfold parOk at h
 simp only [Bool.and_eq_true, decide_eq_true_eq] at h
 have := lastB_bd t 46
 unfold parP
 rw [List.length_take]; omega
theorem linT_eq : ∀ (n m : Nat) (t : Str), t.length ≤ n → t.length ≤ m → linT n t = linT m t
 | 0, 0, _, _, _ => rfl
 | 0, m + 1, t, h, _ => by
  rw [linT, linT]
  cases hp : parOk t with
  | false => rfl
  | true => have := parP_lt hp; omega
 | n + 1, 0, t, _, h => by
  rw [linT, linT]
  cases hp : parOk t with
  | false => rfl
  | true => have := parP_lt hp; omega
 | n + 1, m + 1, t, h, h' => by
  rw [linT, linT]
  cases hp : parOk t with
  | false => rfl
  | true =>
   have := parP_lt hp
   rw [linT_eq n m (parP t) (by omega) (by omega)]
theorem linT_len : ∀ (n : Nat) (t : Str), (linT n t).length ≤ n
 | 0, _ => Nat.le_refl _
 | n + 1, t => by
  rw [linT]
  cases parOk t with
  | false => exact Nat.zero_le _
  | true => have := linT_len n (parP t); simp only [cond_true, List.length_cons]; omega
theorem eLin_loop : ∀ (n F : Nat) (acc : List Str) (t : Str), t.length ≤ n → n < F → acc.length + n ≤ 100000 → lop (fun σ => eLineage_b1 σ) F (acc ++ [t]) = some (.ret (acc ++ t :: linT n t)) := by
 intro n
 induction n with
 | zero =>
  intro F acc t ht hF ha
  obtain ⟨F, rfl⟩ : ∃ G, F = G + 1 := ⟨F - 1, by omega⟩
  have hp : parOk t = false := by
   cases hp : parOk t with
   | false => rfl
   | true => have := parP_lt hp; omega
  have hal : ((acc ++ [t]).length : Int) = (acc.length : Int) + 1 := by simp
  have hat : at' (acc ++ [t]) (((acc ++ [t]).length : Int) - 1) = t := by
   unfold at'
   rw [show (((acc ++ [t]).length : Int) - 1).toNat = acc.length from by simp]; simp
  have hb : eLineage_b1 (acc ++ [t]) = some (.out (.ret (acc ++ [t]))) := by
   unfold eLineage_b1
   rw [hat, hp, chk_i64 (by rw [hal]; omega) (by rw [hal]; omega), chk_inR (by rw [hal]; omega) (by omega), chk_t (in1 (by omega)), cnd_tt (p := !false) rfl]
  rw [lop]; simp only [hb]; rfl
 | succ n ih =>
  intro F acc t ht hF ha
  obtain ⟨F, rfl⟩ : ∃ G, F = G + 1 := ⟨F - 1, by omega⟩
  have hal : ((acc ++ [t]).length : Int) = (acc.length : Int) + 1 := by simp
  have hat : at' (acc ++ [t]) (((acc ++ [t]).length : Int) - 1) = t := by
   unfold at'
   rw [show (((acc ++ [t]).length : Int) - 1).toNat = acc.length from by simp]; simp
  cases hp : parOk t with
  | false =>
   have hb : eLineage_b1 (acc ++ [t]) = some (.out (.ret (acc ++ [t]))) := by
    unfold eLineage_b1
    rw [hat, hp, chk_i64 (by rw [hal]; omega) (by rw [hal]; omega), chk_inR (by rw [hal]; omega) (by omega), chk_t (in1 (by omega)), cnd_tt (p := !false) rfl]
   rw [lop]; simp only [hb]; rw [linT, hp]; rfl
  | true =>
   have hlt := parP_lt hp
   have hb : eLineage_b1 (acc ++ [t]) = some (.next (acc ++ [t] ++ [parP t])) := by
    unfold eLineage_b1
    rw [hat, hp, chk_i64 (by rw [hal]; omega) (by rw [hal]; omega), chk_inR (by rw [hal]; omega) (by omega), chk_t (in1 (by omega)), cnd_ff (p := !true) rfl, chk_inA16 (by simp; omega)]; rfl
   rw [lop]; simp only [hb]
   rw [ih F (acc ++ [t]) (parP t) (by omega) (by omega) (by simp; omega), linT, hp]
   simp
def lin (id : Str) : List Str := bif idS id then id :: linT 1000 id else []
theorem idS_len {s : Str} (h : idS s = true) : s.length ≤ 64 := by
 unfold idS at h
 simp only [Bool.and_eq_true, decide_eq_true_eq] at h
 exact h.2
theorem eLineage_eq {id : Str} : eLineage 20000 id = some (lin id) := by
 unfold eLineage lin
 cases h : idS id with
 | false => rfl
 | true =>
  have := idS_len h
  rw [cnd_ff (p := !true) rfl]
  have h1 := eLin_loop 1000 20000 [] id (by omega) (by omega) (by simp)
  rw [List.nil_append] at h1
  rw [obn_s h1]; rfl
theorem lin_len (id : Str) : (lin id).length ≤ 1001 := by
 unfold lin
 have := linT_len 1000 id
 cases idS id with
 | false => exact Nat.zero_le _
 | true => simp only [cond_true, List.length_cons]; omega
end Go.Proofs.YtpmiamphppcfeaaDoor

/-
 Events: what is written is read again, what is read is written again; a child and its lineage. Plain laws.
-/
namespace Go.Proofs.YtpmiamphppcfeaaDoor
open Go
set_option linter.unusedVariables false
set_option linter.unusedSimpArgs false
/-! ### A child -/
theorem chiE_zero {e : TApiEvent} {n : Int} {source : Str} {body : List TApiCell} {at_ : Int} (h : ¬ (chiE e n source body at_).2 = 0) : (chiE e n source body at_).1 = zE := by
 unfold chiE at h ⊢
 cases h1 : !decide (errE e = 0) with
 | true => rfl
 | false =>
  rw [h1] at h
  simp only [cond_false] at h ⊢
  cases h2 : !decide (childE e.fID n = 0) with
  | true => rfl
  | false =>
   rw [h2] at h
   simp only [cond_false] at h ⊢
   cases h3 : !decide (errE (kidE e n source body at_) = 0) with
   | true => rfl
   | false => rw [h3] at h; exact absurd rfl h
theorem chiE_ok {e : TApiEvent} {n : Int} {source : Str} {body : List TApiCell} {at_ : Int} (h : (chiE e n source body at_).2 = 0) : errE e = 0 ∧ childE e.fID n = 0 ∧ errE (kidE e n source body at_) = 0 ∧ chiE e n source body at_ = (kidE e n source body at_, 0) := by
 unfold chiE at h ⊢
 cases h1 : decide (errE e = 0) with
 | false => rw [h1] at h; exact absurd h (of_decide_eq_false h1)
 | true =>
  rw [h1] at h
  simp only [Bool.not_true, cond_false] at h ⊢
  cases h2 : decide (childE e.fID n = 0) with
  | false => rw [h2] at h; exact absurd h (of_decide_eq_false h2)
  | true =>
   rw [h2] at h
   simp only [Bool.not_true, cond_false] at h ⊢
   cases h3 : decide (errE (kidE e n source body at_) = 0) with
   | false => rw [h3] at h; exact absurd h (of_decide_eq_false h3)
   | true => exact ⟨of_decide_eq_true h1, of_decide_eq_true h2, of_decide_eq_true h3, rfl⟩
theorem lin_child {id : Str} {n : Int} (hid : idS id = true) (h : childE id n = 0) : lin (childV id n) = childV id n :: lin id := by
 obtain ⟨h1, h2, h3, h4⟩ := back_child h
 have hl := idS_len hid
 unfold lin
 rw [h4, hid]
 simp only [cond_true]
 rw [linT, h1, h2]
 simp only [cond_true]
 rw [linT_eq 999 1000 id (by omega) (by omega)]
theorem childV_inj {id : Str} {n m : Int} (hn : childE id n = 0) (hm : childE id m = 0) : decide (childV id m = childV id n) = decide (m = n) := by
 rw [Bool.eq_iff_iff]
 simp only [decide_eq_true_eq]
 constructor
 ·intro h
  have h1 := (back_child hn).2.2.1
  have h2 := (back_child hm).2.2.1
  rw [h] at h2; omega
 ·intro h; rw [h]
theorem idE_id {e : TApiEvent} (h : errE e = 0) : idS e.fID = true := by
 have := (errE_body h).1
 unfold idsE at this
 simp only [Bool.and_eq_true] at this
 exact this.1
end Go.Proofs.YtpmiamphppcfeaaDoor

/-
 The plain law of EventDescends: for all arguments whose numbers fit.
-/
namespace Go.Proofs.YtpmiamphppcfeaaDoor
open Go
set_option linter.unusedVariables false
set_option linter.unusedSimpArgs false
theorem lEvDescends_law {e : TApiEvent} {n m : Int} {source : Str} {v : List TApiCell} {at_ : Int} (he : okEv e = true) (hn : inK .i64 n = true) (hm : inK .i64 m = true) (hv : v.all okCell = true) (ha : inK .i64 at_ = true) : lEvDescends 20000 e n m source v at_ = some true := by
 unfold lEvDescends
 rw [evAwake_ok, evSmall_eq (by decide), evBody_eq (by decide)]
 simp only [Option.isSome_some, imp_tt, chk_t, ov_some]
 cases h1 : smallE e with
 | false => rw [cnd_tt (by simp), obn_s rfl]
 | true =>
 cases h2 : decide ((100 : Int) < (source.length : Int)) with
 | true => rw [cnd_tt (by simp), obn_s rfl]
 | false =>
 cases h3 : smallB v with
 | false => rw [cnd_tt (by simp), obn_s rfl]
 | true =>
  simp only [decide_eq_false_iff_not] at h2
  have hA := EvA.of h1 he
  have hB := CkA.ofB h3 hv
  have hBv := hB.hv
  rw [cnd_ff (by simp), eChild_eq hA (by decide) hn (by omega) hB ha, obn_s rfl]
  by_cases h0 : (chiE e n source v at_).2 = 0
  ·obtain ⟨k1, k2, k3, k4⟩ := chiE_ok h0
   have hK := kid_A (n := n) (at_ := at_) (source := source) hA (by omega) hB ha
   have hid := idE_id k1
   have hlin : lin (kidE e n source v at_).fID = childV e.fID n :: lin e.fID := lin_child hid k2
   have hll := lin_len e.fID
   rw [k4, cnd_ff (by simp)]
   simp only
   rw [eCheck_eq hK (by decide), k3]
   simp only [Option.isSome_some, chk_t, ov_some]
   rw [cnd_ff (by simp [kidE]), eLineage_eq, obn_s rfl, eLineage_eq, obn_s rfl, hlin]
   rw [chk_i64 (by omega) (by omega), chk_t (imp_c _ (inR' (Int.le_refl 0) (by simp only [List.length_cons]; omega)))]
   rw [cnd_ff (by simp [at', kidE])]
   generalize lin e.fID = l at *
   obtain ⟨o, g1, g2⟩ := lop_ind (body := fun σ => lEvDescends_b1 (childV e.fID n :: l) l σ) (fun x => 0 ≤ x ∧ x ≤ (l.length : Int)) (fun x => l.length - x.toNat) (fun o => oute (fun _ => lEvDescends_k1 20000 e n m source v at_ (kidE e n source v at_, 0)) o = some true) (fun x ⟨h0, hx⟩ => by
    by_cases hlt : x < (l.length : Int)
    ·refine .inl ⟨x + 1, ?_, ⟨by omega, by omega⟩, by omega⟩
     have hat : at' (childV e.fID n :: l) (x + 1) = at' l x := by
      unfold at'
      rw [show (x + 1).toNat = x.toNat + 1 from by omega, List.getElem?_cons_succ]
     unfold lEvDescends_b1
     rw [cnd_tt (decide_eq_true hlt), chk_i64 (by omega) (by omega), chk_inR (by omega) (by simp only [List.length_cons]; omega), chk_inR h0 hlt, hat, cnd_ff (by simp)]
    ·refine .inr ⟨.go (), by unfold lEvDescends_b1; rw [cnd_ff (decide_eq_false hlt)], ?_⟩
     rw [oute_go]; unfold lEvDescends_k1
     rw [eChild_eq hA (by decide) hm (by omega) hB ha, obn_s rfl, evAwake_ok]
     simp only [Option.isSome_some, imp_tt, chk_t, ov_some]
     by_cases hm0 : (chiE e m source v at_).2 = 0
     ·obtain ⟨_, q2, _, q4⟩ := chiE_ok hm0
      rw [q4]
      show some (bif !decide ((0 : Int) = 0) then true else ((decide (childV e.fID m = childV e.fID n) == decide (m = n)) && true)) = some true
      rw [childV_inj k2 q2]; simp
     ·rw [show decide ((chiE e m source v at_).2 = 0) = false from decide_eq_false hm0]; rfl) 20000 0 ⟨Int.le_refl 0, by omega⟩ (by show l.length - 0 < 20000; omega)
   rw [obn_s g1, g2]
  ·have hz := chiE_zero h0
   rw [cnd_tt (by simp [h0]), hz, eSame_eq (by simp [zE])]
   simp only [Option.isSome_some, imp_tt, chk_t, ov_some]
   rw [show decide (zE = TApiEvent.mk [] [] [] [] 0 [] []) = true from decide_eq_true rfl]; rfl
end Go.Proofs.YtpmiamphppcfeaaDoor
namespace Go.Proofs.YtpmiamphppcfeaaDoor.lawEventDescends
open Go
set_option linter.unusedVariables false
theorem law : Law := fun e n m source v at_ h1 h2 h3 _ h5 h6 => ⟨20000, lEvDescends_law h1 h2 h3 (Bool.and_eq_true_iff.1 h5).1 h6⟩
end Go.Proofs.YtpmiamphppcfeaaDoor.lawEventDescends
