/-
  Texts of the proof, put together: WEa, PEb, WEb, PEc, WEc, OkEventCompares, LvA, LvB, LvC, LvD, LvE, LvF, LvG, LvH, LvI, LvJ, LvK, LvL, LvM, LvN, LvO, LvP, LrA, LdA, LdB, LdC, LdD, LdE, LdF, LdG, LdH, LdI, LdJ, LdK, LtA, LrB, LtB, LtD, LeA, LeB, LwEvCompares.
-/
import Derived.Test.YtpmiamphppcfeaaGreatDoorEC4
import GoSem.ClaimData
/-
  Walks, printed by a small program of ours (gq.py).
-/
namespace Go.Proofs.YtpmiamphppcfeaaGreatDoor.Q
open Go Go.RowKit
set_option linter.unusedVariables false
set_option linter.unusedSimpArgs false
set_option maxRecDepth 100000
set_option maxHeartbeats 4000000
@[reducible] def eTApiEvent (x : TApiEvent) : List Rp := [rS x.fID, rS x.fTenant, rS x.fSource, rS x.fKey, rI .i64 x.fAt, rS x.fCause, rSl 4 (List.map eTApiCell x.fBody)]
theorem built25 (parts : List (Nat × Value)) : Tryz.prog.built 25 parts = Instr.fill (fun i => (#[(0, 1), (1, 1), (2, 1), (3, 1), (4, 1), (5, 1), (6, 1)] : Array (Nat × Nat))[i]?) #[(.string ⟨#[]⟩), (.string ⟨#[]⟩), (.string ⟨#[]⟩), (.string ⟨#[]⟩), (.int .i64 0), (.string ⟨#[]⟩), ((.slice none 0 0))] parts := by kernel_rfl
theorem o_build25_ {n : Nat} {c : Cx} {l : Fr} {H : List Ent} {d : Option Nat} {ty : TypeId} {pos : String} {af : Array Edge} {g : Option (Nat × Bool)} : ORun Tryz.prog n c l H { dst := d, op := .build 25 #[], type := ty, pos := pos, after := af, guard := g } (rAgg [rS ([] : Str), rS ([] : Str), rS ([] : Str), rS ([] : Str), rI .i64 0, rS ([] : Str), rv (.slice none 0 0)]) := fun a w Z ha _ => by
  have hb : Tryz.prog.built 25 [] = some #[(.string ⟨#[]⟩), (.string ⟨#[]⟩), (.string ⟨#[]⟩), (.string ⟨#[]⟩), (.int .i64 0), (.string ⟨#[]⟩), ((.slice none 0 0))] := by
    rw [built25]
    simp [Instr.fill, Value.cells]
  refine ⟨.agg #[(.string ⟨#[]⟩), (.string ⟨#[]⟩), (.string ⟨#[]⟩), (.string ⟨#[]⟩), (.int .i64 0), (.string ⟨#[]⟩), ((.slice none 0 0))], ⟨[(.string ⟨#[]⟩), (.string ⟨#[]⟩), (.string ⟨#[]⟩), (.string ⟨#[]⟩), (.int .i64 0), (.string ⟨#[]⟩), ((.slice none 0 0))], rfl, rfl, rfl, rfl, rfl, rfl, rfl, rfl, trivial⟩, ?_⟩
  have := run_build w 25 #[] _ (by simpa using hb)
  simp [execOp, this]
theorem o_build25_0_1_2_3_4_5_6 {n : Nat} {c : Cx} {l : Fr} {H : List Ent} {d : Option Nat} {ty : TypeId} {pos : String} {af : Array Edge} {g : Option (Nat × Bool)} {x0 : Operand} {r0 : Rp} (h0 : ev l x0 = some r0) (u0 : r0.one = true) {x1 : Operand} {r1 : Rp} (h1 : ev l x1 = some r1) (u1 : r1.one = true) {x2 : Operand} {r2 : Rp} (h2 : ev l x2 = some r2) (u2 : r2.one = true) {x3 : Operand} {r3 : Rp} (h3 : ev l x3 = some r3) (u3 : r3.one = true) {x4 : Operand} {r4 : Rp} (h4 : ev l x4 = some r4) (u4 : r4.one = true) {x5 : Operand} {r5 : Rp} (h5 : ev l x5 = some r5) (u5 : r5.one = true) {x6 : Operand} {r6 : Rp} (h6 : ev l x6 = some r6) (u6 : r6.one = true) : ORun Tryz.prog n c l H { dst := d, op := .build 25 #[(0, x0), (1, x1), (2, x2), (3, x3), (4, x4), (5, x5), (6, x6)], type := ty, pos := pos, after := af, guard := g } (rAgg [r0, r1, r2, r3, r4, r5, r6]) := fun a w Z ha _ => by
  have p0 := ha.ev h0
  have c0 := cells_one (r0.hone u0 Z _ p0)
  have p1 := ha.ev h1
  have c1 := cells_one (r1.hone u1 Z _ p1)
  have p2 := ha.ev h2
  have c2 := cells_one (r2.hone u2 Z _ p2)
  have p3 := ha.ev h3
  have c3 := cells_one (r3.hone u3 Z _ p3)
  have p4 := ha.ev h4
  have c4 := cells_one (r4.hone u4 Z _ p4)
  have p5 := ha.ev h5
  have c5 := cells_one (r5.hone u5 Z _ p5)
  have p6 := ha.ev h6
  have c6 := cells_one (r6.hone u6 Z _ p6)
  have hb : Tryz.prog.built 25 [(0, a.eval x0), (1, a.eval x1), (2, a.eval x2), (3, a.eval x3), (4, a.eval x4), (5, a.eval x5), (6, a.eval x6)] = some #[a.eval x0, a.eval x1, a.eval x2, a.eval x3, a.eval x4, a.eval x5, a.eval x6] := by
    rw [built25]
    generalize a.eval x0 = v0 at *
    generalize a.eval x1 = v1 at *
    generalize a.eval x2 = v2 at *
    generalize a.eval x3 = v3 at *
    generalize a.eval x4 = v4 at *
    generalize a.eval x5 = v5 at *
    generalize a.eval x6 = v6 at *
    simp [Instr.fill, c0, c1, c2, c3, c4, c5, c6]
  refine ⟨.agg #[a.eval x0, a.eval x1, a.eval x2, a.eval x3, a.eval x4, a.eval x5, a.eval x6], ⟨[a.eval x0, a.eval x1, a.eval x2, a.eval x3, a.eval x4, a.eval x5, a.eval x6], rfl, p0, p1, p2, p3, p4, p5, p6, trivial⟩, ?_⟩
  have := run_build w 25 #[(0, a.eval x0), (1, a.eval x1), (2, a.eval x2), (3, a.eval x3), (4, a.eval x4), (5, a.eval x5), (6, a.eval x6)] _ (by simpa using hb)
  simp [execOp, this]
theorem cloneN_w (ys : (List TApiCell)) (r : (List TApiCell)) (h : cloneN ys = some r) : Fn Tryz.prog GE 38 [rSl 4 (List.map eTApiCell ys)] [] (fun R H => R = rSl 4 (List.map eTApiCell r) ∧ H = []) := by
 refine enter (n := 8) Tryz.func38 rfl Tryz.ntmps38 rfl (fun w Z => ?_)
 refine wc_as (l' := [(0, rSl 4 (List.map eTApiCell ys))]) (H' := []) rfl rfl ?_
 unfold cloneN at h
 refine wc_sr ?_
 refine wv (r := rv (.slice none 0 0)) (o_assign rfl) ?_
 refine wl_x ?_
 refine wc_seq ?_
 refine wc_sr ?_
 refine wm rfl ?_
 refine wv (o_slnil_z Tryz.underlying23 rfl) ?_
 refine wl_x ?_
 refine wc_condx rfl (fun c1 => ?_) (fun c1 => ?_)
 ·have e2 : ys = [] := List.map_eq_nil_iff.1 (c1 rfl)
  have h3 : some ([] : List TApiCell) = some r := by rw [e2] at h; exact (chk_e h).2
  refine wc_sr ?_
  refine wv (r := rv (.slice none 0 0)) (o_assign rfl) ?_
  refine wl_x ?_
  refine wc_ret ?_
  refine wk_then_ret ?_
  refine WK.up (d := 2) (r := rSl 4 (List.map eTApiCell ([] : List TApiCell))) rfl (Up.le (Rle.nil _)) ?_
  obtain rfl := some_e h3
  exact wk_ret (r_1 Tryz.results38 (rv_t rfl)) sN ⟨rfl, rfl⟩
 ·refine wc_skip ?_
  refine wk_x ?_
  refine wc_sr ?_
  refine w_buildSlice (ys := ([] : List TApiCell)) (enc := eTApiCell) (css := []) (xs := []) Tryz.underlying23 Tryz.sizeOf51 Tryz.zeroValue51 rfl rfl rfl trivial rfl eTApiCell_len rfl rfl rfl (fun b4 => ?_)
  refine wm rfl ?_
  obtain ⟨g6, h7⟩ := chk_e h
  obtain ⟨inf, hinf⟩ := info51
  refine w_append (xs := ([] : List TApiCell)) (ys := ys) (enc := eTApiCell) (i := 0) Tryz.underlying23 hinf.1 hinf.2.1 hinf.2.2.1 hinf.2.2.2 rfl rfl rfl rfl rfl (Src.z rfl rfl) eTApiCell_len eTApiCell_one g6 rfl (fun v5 => ?_)
  refine wa rfl ?_
  refine wl_x ?_
  refine wc_ret ?_
  refine WK.freeze (i := 0) rfl ?_
  refine WK.up (d := 2) (r := rSl 4 (List.map eTApiCell (([] : List TApiCell) ++ ys))) rfl (Up.fact (i := 0) rfl) ?_
  obtain rfl := some_e h7
  exact wk_ret (r_1 Tryz.results38 (rv_t rfl)) (sS sN) ⟨rfl, rfl⟩

theorem eCheck_w (F : Nat) (e : TApiEvent) (r : Int) (h : eCheck F e = some r) : Fn Tryz.prog GE 25 [rAgg (eTApiEvent e)] [] (fun R H => R = rI .i64 r ∧ H = []) := by
 refine enter (n := 52) Tryz.func25 rfl Tryz.ntmps25 rfl (fun w Z => ?_)
 refine wc_as (l' := [(0, rAgg (eTApiEvent e))]) (H' := []) rfl rfl ?_
 unfold eCheck at h
 refine wc_sr ?_
 refine w_box_agg rfl rfl (fun b1 => ?_)
 refine wv (r := rI .i64 0) (o_assign rfl) ?_
 refine wl_x ?_
 refine wc_seq ?_
 refine wc_seq_mid [(1, rv (.pointer (some ⟨b1, 0, none⟩))), (40, rB ((!(idS e.fID)) || ((!(idS e.fTenant)) || ((!(idS e.fSource)) || (bif !decide (e.fKey = ([] : Str)) then ((!(idS e.fKey)) || ((!decide (e.fCause = ([] : Str))) && (!(idS e.fCause)))) else ((!decide (e.fCause = ([] : Str))) && (!(idS e.fCause))))))))] [.blk b1 (eTApiEvent e) 25] ?_ ?_
 ·refine wc_region ?_
  refine wv (o_fieldAddr Tryz.underlying25 rfl Tryz.sizeOf9 rfl rfl) ?_
  refine wv (o_load (i := 0) Tryz.isAgg9 rfl rfl rfl) ?_
  refine w_call0 (rs := [rS e.fID]) (r := rB (idS e.fID)) Tryz.call40 rfl (id_q e.fID) rfl rfl ?_
  refine wv (o_not rfl) ?_
  refine wm rfl ?_
  refine bsplit (!(idS e.fID)) (fun c2 => ?_) (fun c2 => ?_)
  ·refine wf c2 ?_
   refine wf c2 ?_
   refine wf c2 ?_
   refine wf c2 ?_
   refine wv (r := rB true) (o_pick_t (b := !(idS e.fID)) rfl c2 rfl) ?_
   refine wm rfl ?_
   refine wl_off (b := true) rfl rfl rfl rfl ?_
   refine wl_off (b := true) rfl rfl rfl rfl ?_
   refine wl_off (b := true) rfl rfl rfl rfl ?_
   refine wl_off (b := true) rfl rfl rfl rfl ?_
   refine wv (r := rB true) (o_pick_t (b := true) rfl rfl rfl) ?_
   refine wm rfl ?_
   refine wl_off (b := true) rfl rfl rfl rfl ?_
   refine wl_off (b := true) rfl rfl rfl rfl ?_
   refine wl_off (b := true) rfl rfl rfl rfl ?_
   refine wl_off (b := true) rfl rfl rfl rfl ?_
   refine wu ?_
   refine wu ?_
   refine wu ?_
   refine wu ?_
   refine wl_off (b := true) rfl rfl rfl rfl ?_
   refine wv (r := rB true) (o_pick_t (b := true) rfl rfl rfl) ?_
   refine wm rfl ?_
   refine wl_off (b := true) rfl rfl rfl rfl ?_
   refine wl_off (b := true) rfl rfl rfl rfl ?_
   refine wl_off (b := true) rfl rfl rfl rfl ?_
   refine wl_off (b := true) rfl rfl rfl rfl ?_
   refine wu ?_
   refine wu ?_
   refine wu ?_
   refine wu ?_
   refine wl_off (b := true) rfl rfl rfl rfl ?_
   refine wv (r := rB true) (o_pick_t (b := true) rfl rfl rfl) ?_
   refine wl_nil ?_
   exact wtc c2
  ·refine wo c2 ?_
   refine wv (o_fieldAddr Tryz.underlying25 rfl Tryz.sizeOf9 rfl rfl) ?_
   refine wo c2 ?_
   refine wv (o_load (i := 0) Tryz.isAgg9 rfl rfl rfl) ?_
   refine wo c2 ?_
   refine w_call0 (rs := [rS e.fTenant]) (r := rB (idS e.fTenant)) Tryz.call40 rfl (id_q e.fTenant) rfl rfl ?_
   refine wo c2 ?_
   refine wv (o_not rfl) ?_
   refine wpf rfl c2 rfl ?_
   refine wm rfl ?_
   refine bsplit (!(idS e.fTenant)) (fun c3 => ?_) (fun c3 => ?_)
   ·refine wf c3 ?_
    refine wf c3 ?_
    refine wf c3 ?_
    refine wf c3 ?_
    refine wv (r := rB true) (o_pick_t (b := !(idS e.fTenant)) rfl c3 rfl) ?_
    refine wm rfl ?_
    refine wl_off (b := true) rfl rfl rfl rfl ?_
    refine wl_off (b := true) rfl rfl rfl rfl ?_
    refine wl_off (b := true) rfl rfl rfl rfl ?_
    refine wl_off (b := true) rfl rfl rfl rfl ?_
    refine wu ?_
    refine wu ?_
    refine wu ?_
    refine wu ?_
    refine wl_off (b := true) rfl rfl rfl rfl ?_
    refine wv (r := rB true) (o_pick_t (b := true) rfl rfl rfl) ?_
    refine wm rfl ?_
    refine wl_off (b := true) rfl rfl rfl rfl ?_
    refine wl_off (b := true) rfl rfl rfl rfl ?_
    refine wl_off (b := true) rfl rfl rfl rfl ?_
    refine wl_off (b := true) rfl rfl rfl rfl ?_
    refine wu ?_
    refine wu ?_
    refine wu ?_
    refine wu ?_
    refine wl_off (b := true) rfl rfl rfl rfl ?_
    refine wv (r := rB true) (o_pick_t (b := true) rfl rfl rfl) ?_
    refine wl_nil ?_
    exact wtc (And.intro c2 c3)
   ·refine wo c3 ?_
    refine wv (o_fieldAddr Tryz.underlying25 rfl Tryz.sizeOf9 rfl rfl) ?_
    refine wo c3 ?_
    refine wv (o_load (i := 0) Tryz.isAgg9 rfl rfl rfl) ?_
    refine wo c3 ?_
    refine w_call0 (rs := [rS e.fSource]) (r := rB (idS e.fSource)) Tryz.call40 rfl (id_q e.fSource) rfl rfl ?_
    refine wo c3 ?_
    refine wv (o_not rfl) ?_
    refine wpf rfl c3 rfl ?_
    refine wm rfl ?_
    refine bsplit (!(idS e.fSource)) (fun c4 => ?_) (fun c4 => ?_)
    ·refine wf c4 ?_
     refine wf c4 ?_
     refine wf c4 ?_
     refine wf c4 ?_
     refine wu ?_
     refine wu ?_
     refine wu ?_
     refine wu ?_
     refine wf c4 ?_
     refine wv (r := rB true) (o_pick_t (b := !(idS e.fSource)) rfl c4 rfl) ?_
     refine wm rfl ?_
     refine wl_off (b := true) rfl rfl rfl rfl ?_
     refine wl_off (b := true) rfl rfl rfl rfl ?_
     refine wl_off (b := true) rfl rfl rfl rfl ?_
     refine wl_off (b := true) rfl rfl rfl rfl ?_
     refine wu ?_
     refine wu ?_
     refine wu ?_
     refine wu ?_
     refine wl_off (b := true) rfl rfl rfl rfl ?_
     refine wv (r := rB true) (o_pick_t (b := true) rfl rfl rfl) ?_
     refine wl_nil ?_
     exact wtc (And.intro c2 (And.intro c3 c4))
    ·refine wo c4 ?_
     refine wv (o_fieldAddr Tryz.underlying25 rfl Tryz.sizeOf9 rfl rfl) ?_
     refine wo c4 ?_
     refine wv (o_load (i := 0) Tryz.isAgg9 rfl rfl rfl) ?_
     refine wo c4 ?_
     refine wv (o_sne rfl rfl) ?_
     refine wo c4 ?_
     refine wm rfl ?_
     refine bsplit (!decide (e.fKey = ([] : Str))) (fun c5 => ?_) (fun c5 => ?_)
     ·refine wo c5 ?_
      refine wv (o_fieldAddr Tryz.underlying25 rfl Tryz.sizeOf9 rfl rfl) ?_
      refine wo c5 ?_
      refine wv (o_load (i := 0) Tryz.isAgg9 rfl rfl rfl) ?_
      refine wo c5 ?_
      refine w_call0 (rs := [rS e.fKey]) (r := rB (idS e.fKey)) Tryz.call40 rfl (id_q e.fKey) rfl rfl ?_
      refine wo c5 ?_
      refine wv (o_not rfl) ?_
      refine wo c4 ?_
      refine wpt rfl c5 rfl ?_
      refine wpf rfl c4 rfl ?_
      refine wm rfl ?_
      refine bsplit (!(idS e.fKey)) (fun c6 => ?_) (fun c6 => ?_)
      ·refine wf c6 ?_
       refine wf c6 ?_
       refine wf c6 ?_
       refine wf c6 ?_
       refine wu ?_
       refine wu ?_
       refine wu ?_
       refine wu ?_
       refine wf c6 ?_
       refine wv (r := rB true) (o_pick_t (b := !(idS e.fKey)) rfl c6 rfl) ?_
       refine wl_nil ?_
       exact wtc (And.intro c2 (And.intro c3 (And.intro c4 (And.intro c5 c6))))
      ·refine wo c6 ?_
       refine wv (o_fieldAddr Tryz.underlying25 rfl Tryz.sizeOf9 rfl rfl) ?_
       refine wo c6 ?_
       refine wv (o_load (i := 0) Tryz.isAgg9 rfl rfl rfl) ?_
       refine wo c6 ?_
       refine wv (o_sne rfl rfl) ?_
       refine wo c6 ?_
       refine wm rfl ?_
       refine bsplit (!decide (e.fCause = ([] : Str))) (fun c7 => ?_) (fun c7 => ?_)
       ·refine wo c7 ?_
        refine wv (o_fieldAddr Tryz.underlying25 rfl Tryz.sizeOf9 rfl rfl) ?_
        refine wo c7 ?_
        refine wv (o_load (i := 0) Tryz.isAgg9 rfl rfl rfl) ?_
        refine wo c7 ?_
        refine w_call0 (rs := [rS e.fCause]) (r := rB (idS e.fCause)) Tryz.call40 rfl (id_q e.fCause) rfl rfl ?_
        refine wo c7 ?_
        refine wv (o_not rfl) ?_
        refine wo c6 ?_
        refine wpt rfl c7 rfl ?_
        refine wpf rfl c6 rfl ?_
        refine wl_nil ?_
        exact wtc (And.intro c2 (And.intro c3 (And.intro c4 (And.intro c5 (And.intro c6 c7)))))
       ·refine wf c7 ?_
        refine wf c7 ?_
        refine wf c7 ?_
        refine wf c7 ?_
        refine wo c6 ?_
        refine wv (r := rB false) (o_pick_f (b := !decide (e.fCause = ([] : Str))) rfl c7 rfl) ?_
        refine wpf rfl c6 rfl ?_
        refine wl_nil ?_
        exact wtc (And.intro c2 (And.intro c3 (And.intro c4 (And.intro c5 (And.intro c6 c7)))))
     ·refine wf c5 ?_
      refine wf c5 ?_
      refine wf c5 ?_
      refine wf c5 ?_
      refine wo c4 ?_
      refine wv (r := rB false) (o_pick_f (b := !decide (e.fKey = ([] : Str))) rfl c5 rfl) ?_
      refine wpf rfl c4 rfl ?_
      refine wm rfl ?_
      refine wl_on (b := false) rfl rfl rfl ?_
      refine wv (o_fieldAddr Tryz.underlying25 rfl Tryz.sizeOf9 rfl rfl) ?_
      refine wl_on (b := false) rfl rfl rfl ?_
      refine wv (o_load (i := 0) Tryz.isAgg9 rfl rfl rfl) ?_
      refine wl_on (b := false) rfl rfl rfl ?_
      refine wv (o_sne rfl rfl) ?_
      refine wl_on (b := false) rfl rfl rfl ?_
      refine wm rfl ?_
      refine bsplit (!decide (e.fCause = ([] : Str))) (fun c8 => ?_) (fun c8 => ?_)
      ·refine wo c8 ?_
       refine wv (o_fieldAddr Tryz.underlying25 rfl Tryz.sizeOf9 rfl rfl) ?_
       refine wo c8 ?_
       refine wv (o_load (i := 0) Tryz.isAgg9 rfl rfl rfl) ?_
       refine wo c8 ?_
       refine w_call0 (rs := [rS e.fCause]) (r := rB (idS e.fCause)) Tryz.call40 rfl (id_q e.fCause) rfl rfl ?_
       refine wo c8 ?_
       refine wv (o_not rfl) ?_
       refine wl_on (b := false) rfl rfl rfl ?_
       refine wpt rfl c8 rfl ?_
       refine wv (r := rB (!(idS e.fCause))) (o_pick_f (b := false) rfl rfl rfl) ?_
       refine wl_nil ?_
       exact wtc (And.intro c2 (And.intro c3 (And.intro c4 (And.intro c5 c8))))
      ·refine wf c8 ?_
       refine wf c8 ?_
       refine wf c8 ?_
       refine wf c8 ?_
       refine wl_on (b := false) rfl rfl rfl ?_
       refine wv (r := rB false) (o_pick_f (b := !decide (e.fCause = ([] : Str))) rfl c8 rfl) ?_
       refine wv (r := rB false) (o_pick_f (b := false) rfl rfl rfl) ?_
       refine wl_nil ?_
       exact wtc (And.intro c2 (And.intro c3 (And.intro c4 (And.intro c5 c8))))
 refine wc_cond (b := ((!(idS e.fID)) || ((!(idS e.fTenant)) || ((!(idS e.fSource)) || (bif !decide (e.fKey = ([] : Str)) then ((!(idS e.fKey)) || ((!decide (e.fCause = ([] : Str))) && (!(idS e.fCause)))) else ((!decide (e.fCause = ([] : Str))) && (!(idS e.fCause)))))))) rfl (fun c9 => ?_) (fun c9 => ?_)
 ·have h10 := cnd_t c9 h
  refine wc_sr ?_
  refine wv (r := rI .i64 4) (o_assign rfl) ?_
  refine wl_x ?_
  refine wc_ret ?_
  refine wk_then_ret ?_
  obtain rfl := some_e h10
  exact wk_ret (r_1 Tryz.results25 (rv_t rfl)) (sS sN) ⟨rfl, rfl⟩
 ·have h11 := cnd_f c9 h
  refine wc_skip ?_
  refine wk_x ?_
  refine wc_seq ?_
  refine wc_seq_mid [(1, rv (.pointer (some ⟨b1, 0, none⟩))), (48, rB ((decide (e.fAt < 0)) || (decide (1073741824 < e.fAt))))] [.blk b1 (eTApiEvent e) 25] ?_ ?_
  ·refine wc_region ?_
   refine wv (o_fieldAddr Tryz.underlying25 rfl Tryz.sizeOf3 rfl rfl) ?_
   refine wv (o_load (i := 0) Tryz.isAgg3 rfl rfl rfl) ?_
   refine wv (o_lt rfl rfl) ?_
   refine wm rfl ?_
   refine bsplit (decide (e.fAt < 0)) (fun c12 => ?_) (fun c12 => ?_)
   ·refine wf c12 ?_
    refine wf c12 ?_
    refine wf c12 ?_
    refine wv (r := rB true) (o_pick_t (b := decide (e.fAt < 0)) rfl c12 rfl) ?_
    refine wl_nil ?_
    exact wtc c12
   ·refine wo c12 ?_
    refine wv (o_fieldAddr Tryz.underlying25 rfl Tryz.sizeOf3 rfl rfl) ?_
    refine wo c12 ?_
    refine wv (o_load (i := 0) Tryz.isAgg3 rfl rfl rfl) ?_
    refine wo c12 ?_
    refine wv (o_gt rfl rfl) ?_
    refine wpf rfl c12 rfl ?_
    refine wl_nil ?_
    exact wtc c12
  refine wc_cond (b := ((decide (e.fAt < 0)) || (decide (1073741824 < e.fAt)))) rfl (fun c13 => ?_) (fun c13 => ?_)
  ·have h14 := cnd_t c13 h11
   refine wc_sr ?_
   refine wv (r := rI .i64 2) (o_assign rfl) ?_
   refine wl_x ?_
   refine wc_ret ?_
   refine wk_then_ret ?_
   obtain rfl := some_e h14
   exact wk_ret (r_1 Tryz.results25 (rv_t rfl)) (sS sN) ⟨rfl, rfl⟩
  ·have h15 := cnd_f c13 h11
   refine wc_skip ?_
   refine wk_x ?_
   refine wc_sr ?_
   refine wv (o_fieldAddr Tryz.underlying25 rfl Tryz.sizeOf23 rfl rfl) ?_
   refine wv (o_load (i := 0) Tryz.isAgg23 rfl rfl rfl) ?_
   obtain ⟨r16, e18, h17⟩ := obn_e h15
   refine wc0 Tryz.call54 (vCheck_w F e.fBody r16 e18) rfl ?_
   refine wa rfl ?_
   refine wl_x ?_
   refine wc_ret ?_
   obtain rfl := some_e h17
   exact wk_ret (r_1 Tryz.results25 (rv_t rfl)) (sS sN) ⟨rfl, rfl⟩

theorem eEncode_w (F : Nat) (e : TApiEvent) (r : Str × Int) (h : eEncode F e = some r) : Fn Tryz.prog GE 21 [rAgg (eTApiEvent e)] [] (fun R H => R = rTup [rS r.1, rI .i64 r.2] ∧ H = []) := by
 refine enter (n := 44) Tryz.func21 rfl Tryz.ntmps21 rfl (fun w Z => ?_)
 refine wc_as (l' := [(0, rAgg (eTApiEvent e))]) (H' := []) rfl rfl ?_
 unfold eEncode at h
 refine wc_sr ?_
 refine w_box_agg rfl rfl (fun b1 => ?_)
 refine wv (r := rS ([] : Str)) (o_assign rfl) ?_
 refine wv (r := rI .i64 0) (o_assign rfl) ?_
 refine wl_x ?_
 refine wc_seq ?_
 refine wc_sr ?_
 refine wv (o_load_agg (i := 0) Tryz.isAgg25 Tryz.sizeOf25 rfl rfl rfl rfl) ?_
 obtain ⟨r2, e4, h3⟩ := obn_e h
 refine wc0 Tryz.call25 (eCheck_w F e r2 e4) rfl ?_
 refine wa rfl ?_
 refine wl_y ?_
 refine wm rfl ?_
 refine wv (o_ne rfl rfl) ?_
 refine wl_x ?_
 refine wc_cond (b := !decide (r2 = 0)) rfl (fun c5 => ?_) (fun c5 => ?_)
 ·have h6 := cnd_t c5 h3
  refine wc_sr ?_
  refine wm rfl ?_
  refine wv (r := rS ([] : Str)) (o_assign rfl) ?_
  refine wa rfl ?_
  refine wl_x ?_
  refine wc_ret ?_
  refine wk_then_ret ?_
  obtain rfl := some_e h6
  exact wk_ret (r_2 Tryz.results21 (rv_t rfl) (rv_t rfl)) (sS sN) ⟨rfl, rfl⟩
 ·have h7 := cnd_f c5 h3
  refine wc_skip ?_
  refine wk_x ?_
  refine wc_sr ?_
  refine wv (o_fieldAddr Tryz.underlying25 rfl Tryz.sizeOf23 rfl rfl) ?_
  refine wv (o_load (i := 0) Tryz.isAgg23 rfl rfl rfl) ?_
  obtain ⟨r8, e10, h9⟩ := obn_e h7
  refine wc0 Tryz.call44 (vEncode_w F e.fBody r8 e10) rfl ?_
  refine wm rfl ?_
  refine wv (o_extract rfl rfl) ?_
  refine wv (o_extract rfl rfl) ?_
  refine wa rfl ?_
  refine wa rfl ?_
  refine wl_x ?_
  refine wc_seq ?_
  refine wc_sr ?_
  refine wm rfl ?_
  refine wv (o_ne rfl rfl) ?_
  refine wl_x ?_
  refine wc_cond (b := !decide (r8.2 = 0)) rfl (fun c11 => ?_) (fun c11 => ?_)
  ·have h12 := cnd_t c11 h9
   refine wc_sr ?_
   refine wm rfl ?_
   refine wv (r := rS ([] : Str)) (o_assign rfl) ?_
   refine wa rfl ?_
   refine wl_x ?_
   refine wc_ret ?_
   refine wk_then_ret ?_
   obtain rfl := some_e h12
   exact wk_ret (r_2 Tryz.results21 (rv_t rfl) (rv_t rfl)) (sS sN) ⟨rfl, rfl⟩
  ·have h13 := cnd_f c11 h9
   refine wc_skip ?_
   refine wk_x ?_
   refine wc_sr ?_
   obtain ⟨inf, hinf⟩ := info9
   refine w_make (enc := eS) (zα := ([] : Str)) (m := 7) Tryz.underlying36 hinf.1 hinf.2.1 hinf.2.2.1 hinf.2.2.2 rfl rfl rfl (fun _ => rfl) rfl rfl (by decide) rfl (fun v14 => ?_)
   refine wa rfl ?_
   refine wl_x ?_
   refine wc_seq ?_
   obtain ⟨g15, h16⟩ := chk_e h13
   refine wc_rdlk (H1 := [.row v14 9 1 (List.map eS (List.replicate 7 ([] : Str))), .blk b1 (eTApiEvent e) 25]) 16 [1, 5, 7] [⟨[], rv v14, 0⟩, ⟨[], rv (.pointer (some ⟨b1, 0, none⟩)), 0⟩, ⟨[1], rS e.fID, 1⟩, ⟨[], rv (.pointer (some ⟨b1, 1, none⟩)), 0⟩, ⟨[3], rS e.fTenant, 1⟩, ⟨[], rv (.pointer (some ⟨b1, 2, none⟩)), 0⟩, ⟨[5], rS e.fSource, 1⟩, ⟨[], rv (.pointer (some ⟨b1, 3, none⟩)), 0⟩, ⟨[7], rS e.fKey, 1⟩, ⟨[], rv (.pointer (some ⟨b1, 4, none⟩)), 0⟩, ⟨[9], rI .i64 e.fAt, 1⟩, ⟨[10], rS (Lib.itoa e.fAt), 0⟩, ⟨[], rv (.pointer (some ⟨b1, 5, none⟩)), 0⟩, ⟨[12], rS e.fCause, 1⟩, ⟨[], rS r8.1, 0⟩, ⟨[2, 4, 6, 8, 11, 13, 14], rSl 1 (List.map eS ([e.fID, e.fTenant, e.fSource, e.fKey, Lib.itoa e.fAt, e.fCause, r8.1] : List Str)), 0⟩] (rle [(17, _)]) [23, 24, 25, 26, 27, 28, 29, 30, 31, 32, 33, 34, 35, 36, 37, 38, 1, 5, 7] ?_ ?_
   ·refine oq (o_move rfl) ?_
    refine oq (o_fieldAddr Tryz.underlying25 rfl Tryz.sizeOf9 rfl rfl) ?_
    refine of (o_load (i := 1) Tryz.isAgg9 rfl rfl rfl) ?_
    refine oq (o_fieldAddr Tryz.underlying25 rfl Tryz.sizeOf9 rfl rfl) ?_
    refine of (o_load (i := 1) Tryz.isAgg9 rfl rfl rfl) ?_
    refine oq (o_fieldAddr Tryz.underlying25 rfl Tryz.sizeOf9 rfl rfl) ?_
    refine of (o_load (i := 1) Tryz.isAgg9 rfl rfl rfl) ?_
    refine oq (o_fieldAddr Tryz.underlying25 rfl Tryz.sizeOf9 rfl rfl) ?_
    refine of (o_load (i := 1) Tryz.isAgg9 rfl rfl rfl) ?_
    refine oq (o_fieldAddr Tryz.underlying25 rfl Tryz.sizeOf3 rfl rfl) ?_
    refine of (o_load (i := 1) Tryz.isAgg3 rfl rfl rfl) ?_
    refine obl_q rfl (fun H => ok_call0 (rs := [rI .i64 e.fAt]) (r := rS (Lib.itoa e.fAt)) Tryz.call45 rfl (format_q e.fAt g15) rfl) ?_
    refine oq (o_fieldAddr Tryz.underlying25 rfl Tryz.sizeOf9 rfl rfl) ?_
    refine of (o_load (i := 1) Tryz.isAgg9 rfl rfl rfl) ?_
    refine oq (o_move rfl) ?_
    refine obl_q rfl (fun H => ok_buildSlice (ys := ([e.fID, e.fTenant, e.fSource, e.fKey, Lib.itoa e.fAt, e.fCause, r8.1] : List Str)) (enc := eS) (css := [[rS e.fID], [rS e.fTenant], [rS e.fSource], [rS e.fKey], [rS (Lib.itoa e.fAt)], [rS e.fCause], [rS r8.1]]) (xs := [.tmp 25, .tmp 27, .tmp 29, .tmp 31, .tmp 34, .tmp 36, .tmp 37]) Tryz.underlying36 Tryz.sizeOf9 Tryz.zeroValue9 rfl rfl rfl ⟨Cel.one rfl (Up.refl _), Cel.one rfl (Up.refl _), Cel.one rfl (Up.refl _), Cel.one rfl (Up.refl _), Cel.one rfl (Up.refl _), Cel.one rfl (Up.refl _), Cel.one rfl (Up.refl _), trivial⟩ rfl eS_len rfl rfl) ?_
    exact obl_e
   refine w_copy (xs := List.replicate 7 ([] : Str)) (ys := ([e.fID, e.fTenant, e.fSource, e.fKey, Lib.itoa e.fAt, e.fCause, r8.1] : List Str)) (enc := eS) (i := 0) Tryz.underlying36 (by obtain ⟨inf, hinf⟩ := info9; simp [hinf.1, hinf.2.2.1]) rfl rfl (Src.z rfl rfl) eS_len eS_one rfl ?_
   refine wl_asH (H' := [.row v14 9 1 (List.map eS (cpy (List.replicate 7 ([] : Str)) ([e.fID, e.fTenant, e.fSource, e.fKey, Lib.itoa e.fAt, e.fCause, r8.1] : List Str))), .blk b1 (eTApiEvent e) 25]) rfl ?_
   refine wl_y ?_
   refine wm rfl ?_
   refine WL.freeze (i := 0) rfl ?_
   refine WL.up (d := 40) (r := rSl 1 (List.map eS (cpy (List.replicate 7 ([] : Str)) ([e.fID, e.fTenant, e.fSource, e.fKey, Lib.itoa e.fAt, e.fCause, r8.1] : List Str)))) rfl (Up.fact (i := 0) rfl) ?_
   obtain ⟨r17, e19, h18⟩ := obn_e h16
   refine wc0 Tryz.call46 (fPack_w F (cpy (List.replicate 7 ([] : Str)) ([e.fID, e.fTenant, e.fSource, e.fKey, Lib.itoa e.fAt, e.fCause, r8.1] : List Str)) r17 e19) rfl ?_
   refine wv (o_extract rfl rfl) ?_
   refine wv (o_extract rfl rfl) ?_
   refine wa rfl ?_
   refine wa rfl ?_
   refine wl_x ?_
   refine wc_ret ?_
   obtain rfl := some_e h18
   exact wk_ret (r_2 Tryz.results21 (rv_t rfl) (rv_t rfl)) (sS (sS sN)) ⟨rfl, rfl⟩

theorem eDecode_w (F : Nat) (s : Str) (r : TApiEvent × Int) (h : eDecode F s = some r) : Fn Tryz.prog GE 9 [rS s] [] (fun R H => R = rTup [rAgg (eTApiEvent r.1), rI .i64 r.2] ∧ H = []) := by
 refine enter (n := 70) Tryz.func9 rfl Tryz.ntmps9 rfl (fun w Z => ?_)
 refine wc_as (l' := [(0, rS s)]) (H' := []) rfl rfl ?_
 unfold eDecode at h
 refine wc_sr ?_
 refine w_alloc (cs := [rS ([] : Str), rS ([] : Str), rS ([] : Str), rS ([] : Str), rI .i64 0, rS ([] : Str), rv (.slice none 0 0)]) Tryz.zeroValue25 rfl rfl (fun b1 => ?_)
 refine wv (r := rI .i64 0) (o_assign rfl) ?_
 refine wl_y ?_
 refine wm rfl ?_
 obtain ⟨r2, e4, h3⟩ := obn_e h
 refine wc0 Tryz.call28 (fUnpack_w F s r2 e4) rfl ?_
 refine wm rfl ?_
 refine wv (o_extract rfl rfl) ?_
 refine wv (o_extract rfl rfl) ?_
 refine wa rfl ?_
 refine wa rfl ?_
 refine wl_x ?_
 refine wc_seq ?_
 refine wc_sr ?_
 refine wm rfl ?_
 refine wv (o_ne rfl rfl) ?_
 refine wl_x ?_
 refine wc_cond (b := !decide (r2.2 = 0)) rfl (fun c5 => ?_) (fun c5 => ?_)
 ·have h6 := cnd_t c5 h3
  refine wc_sr ?_
  refine wv (r := rAgg [rS ([] : Str), rS ([] : Str), rS ([] : Str), rS ([] : Str), rI .i64 0, rS ([] : Str), rv (.slice none 0 0)]) (o_build25_ ) ?_
  refine wm rfl ?_
  refine u_store_agg (i := 0) Tryz.sizeOf25 rfl rfl rfl (OneAll.c rfl) rfl rfl (cs' := [rS ([] : Str), rS ([] : Str), rS ([] : Str), rS ([] : Str), rI .i64 0, rS ([] : Str), rv (.slice none 0 0)]) rfl (H' := [.blk b1 [rS ([] : Str), rS ([] : Str), rS ([] : Str), rS ([] : Str), rI .i64 0, rS ([] : Str), rv (.slice none 0 0)] 25]) rfl ?_
  refine wa rfl ?_
  refine wl_x ?_
  refine wc_ret ?_
  refine wk_then_ret ?_
  refine WK.upBlk (i := 0) (cs' := [rS ([] : Str), rS ([] : Str), rS ([] : Str), rS ([] : Str), rI .i64 0, rS ([] : Str), rSl 4 (List.map eTApiCell ([] : List TApiCell))]) rfl ⟨Up.refl _, Up.refl _, Up.refl _, Up.refl _, Up.refl _, Up.refl _, Up.le (Rle.nil _), trivial⟩ ?_
  obtain rfl := some_e h6
  exact wk_ret (r_2 Tryz.results9 (rv_ca (i := 0) Tryz.isAgg25 Tryz.sizeOf25 rfl rfl rfl) (rv_t rfl)) (sS sN) ⟨rfl, rfl⟩
 ·have h7 := cnd_f c5 h3
  refine wc_skip ?_
  refine wk_x ?_
  refine wc_seq ?_
  refine wc_sr ?_
  refine wm rfl ?_
  refine wv (o_len_zt (ys := r2.1) (enc := eS) Tryz.underlying36 rfl) ?_
  refine wv (o_ne rfl rfl) ?_
  refine wl_x ?_
  refine wc_cond (b := !decide ((r2.1.length : Int) = 7)) rfl (fun c8 => ?_) (fun c8 => ?_)
  ·have h9 := cnd_t c8 h7
   refine wc_sr ?_
   refine wv (r := rAgg [rS ([] : Str), rS ([] : Str), rS ([] : Str), rS ([] : Str), rI .i64 0, rS ([] : Str), rv (.slice none 0 0)]) (o_build25_ ) ?_
   refine u_store_agg (i := 0) Tryz.sizeOf25 rfl rfl rfl (OneAll.c rfl) rfl rfl (cs' := [rS ([] : Str), rS ([] : Str), rS ([] : Str), rS ([] : Str), rI .i64 0, rS ([] : Str), rv (.slice none 0 0)]) rfl (H' := [.blk b1 [rS ([] : Str), rS ([] : Str), rS ([] : Str), rS ([] : Str), rI .i64 0, rS ([] : Str), rv (.slice none 0 0)] 25]) rfl ?_
   refine wv (r := rI .i64 13) (o_assign rfl) ?_
   refine wl_x ?_
   refine wc_ret ?_
   refine wk_then_ret ?_
   refine WK.upBlk (i := 0) (cs' := [rS ([] : Str), rS ([] : Str), rS ([] : Str), rS ([] : Str), rI .i64 0, rS ([] : Str), rSl 4 (List.map eTApiCell ([] : List TApiCell))]) rfl ⟨Up.refl _, Up.refl _, Up.refl _, Up.refl _, Up.refl _, Up.refl _, Up.le (Rle.nil _), trivial⟩ ?_
   obtain rfl := some_e h9
   exact wk_ret (r_2 Tryz.results9 (rv_ca (i := 0) Tryz.isAgg25 Tryz.sizeOf25 rfl rfl rfl) (rv_t rfl)) (sS sN) ⟨rfl, rfl⟩
  ·have h10 := cnd_f c8 h7
   refine wc_skip ?_
   refine wk_x ?_
   refine wc_sr ?_
   refine wm rfl ?_
   obtain ⟨g11, h12⟩ := chk_e h10
   refine wv (o_ix_z (enc := eS) (ys := r2.1) Tryz.underlying36 Tryz.sizeOf9 rfl rfl g11) ?_
   refine wv (o_load_z Tryz.isAgg9 rfl rfl) ?_
   obtain ⟨g13, h14⟩ := chk_e h12
   refine w_call0 (rs := [rS (at' r2.1 4)]) (r := rTup [rI .i64 (parseV (at' r2.1 4)), rI .i64 (parseE (at' r2.1 4))]) Tryz.call29 rfl (parse_q (at' r2.1 4) g13) rfl rfl ?_
   refine wm rfl ?_
   refine wv (o_extract rfl rfl) ?_
   refine wv (o_extract rfl rfl) ?_
   refine wa rfl ?_
   refine wa rfl ?_
   refine wl_x ?_
   refine wc_seq ?_
   refine wc_sr ?_
   refine wm rfl ?_
   refine wv (o_ne rfl rfl) ?_
   refine wl_x ?_
   refine wc_cond (b := !decide ((parseE (at' r2.1 4)) = 0)) rfl (fun c15 => ?_) (fun c15 => ?_)
   ·have h16 := cnd_t c15 h14
    refine wc_sr ?_
    refine wv (r := rAgg [rS ([] : Str), rS ([] : Str), rS ([] : Str), rS ([] : Str), rI .i64 0, rS ([] : Str), rv (.slice none 0 0)]) (o_build25_ ) ?_
    refine wm rfl ?_
    refine u_store_agg (i := 0) Tryz.sizeOf25 rfl rfl rfl (OneAll.c rfl) rfl rfl (cs' := [rS ([] : Str), rS ([] : Str), rS ([] : Str), rS ([] : Str), rI .i64 0, rS ([] : Str), rv (.slice none 0 0)]) rfl (H' := [.blk b1 [rS ([] : Str), rS ([] : Str), rS ([] : Str), rS ([] : Str), rI .i64 0, rS ([] : Str), rv (.slice none 0 0)] 25]) rfl ?_
    refine wa rfl ?_
    refine wl_x ?_
    refine wc_ret ?_
    refine wk_then_ret ?_
    refine WK.upBlk (i := 0) (cs' := [rS ([] : Str), rS ([] : Str), rS ([] : Str), rS ([] : Str), rI .i64 0, rS ([] : Str), rSl 4 (List.map eTApiCell ([] : List TApiCell))]) rfl ⟨Up.refl _, Up.refl _, Up.refl _, Up.refl _, Up.refl _, Up.refl _, Up.le (Rle.nil _), trivial⟩ ?_
    obtain rfl := some_e h16
    exact wk_ret (r_2 Tryz.results9 (rv_ca (i := 0) Tryz.isAgg25 Tryz.sizeOf25 rfl rfl rfl) (rv_t rfl)) (sS sN) ⟨rfl, rfl⟩
   ·have h17 := cnd_f c15 h14
    refine wc_skip ?_
    refine wk_x ?_
    refine wc_sr ?_
    refine wm rfl ?_
    obtain ⟨g18, h19⟩ := chk_e h17
    refine wv (o_ix_z (enc := eS) (ys := r2.1) Tryz.underlying36 Tryz.sizeOf9 rfl rfl g18) ?_
    refine wv (o_load_z Tryz.isAgg9 rfl rfl) ?_
    obtain ⟨r20, e22, h21⟩ := obn_e h19
    refine wc0 Tryz.call30 (vDecode_w F (at' r2.1 6) r20 e22) rfl ?_
    refine wm rfl ?_
    refine wv (o_extract rfl rfl) ?_
    refine wv (o_extract rfl rfl) ?_
    refine wa rfl ?_
    refine wa rfl ?_
    refine wl_x ?_
    refine wc_seq ?_
    refine wc_sr ?_
    refine wm rfl ?_
    refine wv (o_ne rfl rfl) ?_
    refine wl_x ?_
    refine wc_cond (b := !decide (r20.2 = 0)) rfl (fun c23 => ?_) (fun c23 => ?_)
    ·have h24 := cnd_t c23 h21
     refine wc_sr ?_
     refine wv (r := rAgg [rS ([] : Str), rS ([] : Str), rS ([] : Str), rS ([] : Str), rI .i64 0, rS ([] : Str), rv (.slice none 0 0)]) (o_build25_ ) ?_
     refine wm rfl ?_
     refine u_store_agg (i := 0) Tryz.sizeOf25 rfl rfl rfl (OneAll.c rfl) rfl rfl (cs' := [rS ([] : Str), rS ([] : Str), rS ([] : Str), rS ([] : Str), rI .i64 0, rS ([] : Str), rv (.slice none 0 0)]) rfl (H' := [.blk b1 [rS ([] : Str), rS ([] : Str), rS ([] : Str), rS ([] : Str), rI .i64 0, rS ([] : Str), rv (.slice none 0 0)] 25]) rfl ?_
     refine wa rfl ?_
     refine wl_x ?_
     refine wc_ret ?_
     refine wk_then_ret ?_
     refine WK.upBlk (i := 0) (cs' := [rS ([] : Str), rS ([] : Str), rS ([] : Str), rS ([] : Str), rI .i64 0, rS ([] : Str), rSl 4 (List.map eTApiCell ([] : List TApiCell))]) rfl ⟨Up.refl _, Up.refl _, Up.refl _, Up.refl _, Up.refl _, Up.refl _, Up.le (Rle.nil _), trivial⟩ ?_
     obtain rfl := some_e h24
     exact wk_ret (r_2 Tryz.results9 (rv_ca (i := 0) Tryz.isAgg25 Tryz.sizeOf25 rfl rfl rfl) (rv_t rfl)) (sS sN) ⟨rfl, rfl⟩
    ·have h25 := cnd_f c23 h21
     refine wc_skip ?_
     refine wk_x ?_
     refine wc_seq ?_
     obtain ⟨g26, h27⟩ := chk_e h25
     obtain ⟨g28, h29⟩ := chk_e h27
     obtain ⟨g30, h31⟩ := chk_e h29
     obtain ⟨g32, h33⟩ := chk_e h31
     obtain ⟨g34, h35⟩ := chk_e h33
     refine wc_rdak 19 [2, 4, 6, 7] [⟨[], rSl 1 (List.map eS r2.1), none, none, none⟩, ⟨[0], rAt [rS (at' r2.1 0)], none, none, none⟩, ⟨[1], rS (at' r2.1 0), none, none, none⟩, ⟨[], rSl 1 (List.map eS r2.1), none, none, none⟩, ⟨[3], rAt [rS (at' r2.1 1)], none, none, none⟩, ⟨[4], rS (at' r2.1 1), none, none, none⟩, ⟨[], rSl 1 (List.map eS r2.1), none, none, none⟩, ⟨[6], rAt [rS (at' r2.1 2)], none, none, none⟩, ⟨[7], rS (at' r2.1 2), none, none, none⟩, ⟨[], rSl 1 (List.map eS r2.1), none, none, none⟩, ⟨[9], rAt [rS (at' r2.1 3)], none, none, none⟩, ⟨[10], rS (at' r2.1 3), none, none, none⟩, ⟨[], rI .i64 (parseV (at' r2.1 4)), none, none, none⟩, ⟨[], rSl 1 (List.map eS r2.1), none, none, none⟩, ⟨[13], rAt [rS (at' r2.1 5)], none, none, none⟩, ⟨[14], rS (at' r2.1 5), none, none, none⟩, ⟨[], rSl 4 (List.map eTApiCell r20.1), none, none, none⟩, ⟨[2, 5, 8, 11, 12, 15, 16], rAgg [rS (at' r2.1 0), rS (at' r2.1 1), rS (at' r2.1 2), rS (at' r2.1 3), rI .i64 (parseV (at' r2.1 4)), rS (at' r2.1 5), rSl 4 (List.map eTApiCell r20.1)], none, none, none⟩, ⟨[], rv undef, some ([rS ([] : Str), rS ([] : Str), rS ([] : Str), rS ([] : Str), rI .i64 0, rS ([] : Str), rv (.slice none 0 0)], 25), none, none⟩] ?_ (fun β => ?_)
     ·refine oaq (o_move rfl) ?_
      refine oaq (o_ix_z (enc := eS) (ys := r2.1) Tryz.underlying36 Tryz.sizeOf9 rfl rfl g26) ?_
      refine oaq (o_load_z Tryz.isAgg9 rfl rfl) ?_
      refine oaq (o_move rfl) ?_
      refine oaq (o_ix_z (enc := eS) (ys := r2.1) Tryz.underlying36 Tryz.sizeOf9 rfl rfl g28) ?_
      refine oaq (o_load_z Tryz.isAgg9 rfl rfl) ?_
      refine oaq (o_move rfl) ?_
      refine oaq (o_ix_z (enc := eS) (ys := r2.1) Tryz.underlying36 Tryz.sizeOf9 rfl rfl g30) ?_
      refine oaq (o_load_z Tryz.isAgg9 rfl rfl) ?_
      refine oaq (o_move rfl) ?_
      refine oaq (o_ix_z (enc := eS) (ys := r2.1) Tryz.underlying36 Tryz.sizeOf9 rfl rfl g32) ?_
      refine oaq (o_load_z Tryz.isAgg9 rfl rfl) ?_
      refine oaq (o_move rfl) ?_
      refine oaq (o_move rfl) ?_
      refine oaq (o_ix_z (enc := eS) (ys := r2.1) Tryz.underlying36 Tryz.sizeOf9 rfl rfl g34) ?_
      refine oaq (o_load_z Tryz.isAgg9 rfl rfl) ?_
      refine oaq (o_move rfl) ?_
      refine oaq (o_build25_0_1_2_3_4_5_6 rfl rfl rfl rfl rfl rfl rfl rfl rfl rfl rfl rfl rfl rfl) ?_
      refine oal (al_ok (cs := [rS ([] : Str), rS ([] : Str), rS ([] : Str), rS ([] : Str), rI .i64 0, rS ([] : Str), rv (.slice none 0 0)]) Tryz.zeroValue25 rfl) ?_
      exact oae
     refine wl_kza (H1 := [.blk b1 [rS ([] : Str), rS ([] : Str), rS ([] : Str), rS ([] : Str), rI .i64 0, rS ([] : Str), rv (.slice none 0 0)] 25, .blk (β 18) [rS ([] : Str), rS ([] : Str), rS ([] : Str), rS ([] : Str), rI .i64 0, rS ([] : Str), rv (.slice none 0 0)] 25]) [45, 46, 47, 48, 49, 50, 51, 52, 53, 54, 55, 56, 57, 58, 59, 60, 61, 62, 8, 2, 4, 6, 7] ?_
     generalize β 18 = b36
     refine u_store_agg (i := 1) Tryz.sizeOf25 rfl rfl rfl (OneAll.c rfl) rfl rfl (cs' := [rS (at' r2.1 0), rS (at' r2.1 1), rS (at' r2.1 2), rS (at' r2.1 3), rI .i64 (parseV (at' r2.1 4)), rS (at' r2.1 5), rSl 4 (List.map eTApiCell r20.1)]) rfl (H' := [.blk b1 [rS ([] : Str), rS ([] : Str), rS ([] : Str), rS ([] : Str), rI .i64 0, rS ([] : Str), rv (.slice none 0 0)] 25, .blk b36 [rS (at' r2.1 0), rS (at' r2.1 1), rS (at' r2.1 2), rS (at' r2.1 3), rI .i64 (parseV (at' r2.1 4)), rS (at' r2.1 5), rSl 4 (List.map eTApiCell r20.1)] 25]) rfl ?_
     refine wl_x ?_
     refine wc_seq ?_
     refine wc_sr ?_
     refine wv (o_load_agg (i := 1) Tryz.isAgg25 Tryz.sizeOf25 rfl rfl rfl rfl) ?_
     obtain ⟨r37, e39, h38⟩ := obn_e h35
     refine wc0 Tryz.call25 (eCheck_w F (TApiEvent.mk (at' r2.1 0) (at' r2.1 1) (at' r2.1 2) (at' r2.1 3) (parseV (at' r2.1 4)) (at' r2.1 5) r20.1) r37 e39) rfl ?_
     refine wa rfl ?_
     refine wl_y ?_
     refine wm rfl ?_
     refine wv (o_ne rfl rfl) ?_
     refine wl_x ?_
     refine wc_cond (b := !decide (r37 = 0)) rfl (fun c40 => ?_) (fun c40 => ?_)
     ·have h41 := cnd_t c40 h38
      refine wc_sr ?_
      refine wv (r := rAgg [rS ([] : Str), rS ([] : Str), rS ([] : Str), rS ([] : Str), rI .i64 0, rS ([] : Str), rv (.slice none 0 0)]) (o_build25_ ) ?_
      refine wm rfl ?_
      refine u_store_agg (i := 0) Tryz.sizeOf25 rfl rfl rfl (OneAll.c rfl) rfl rfl (cs' := [rS ([] : Str), rS ([] : Str), rS ([] : Str), rS ([] : Str), rI .i64 0, rS ([] : Str), rv (.slice none 0 0)]) rfl (H' := [.blk b1 [rS ([] : Str), rS ([] : Str), rS ([] : Str), rS ([] : Str), rI .i64 0, rS ([] : Str), rv (.slice none 0 0)] 25, .blk b36 [rS (at' r2.1 0), rS (at' r2.1 1), rS (at' r2.1 2), rS (at' r2.1 3), rI .i64 (parseV (at' r2.1 4)), rS (at' r2.1 5), rSl 4 (List.map eTApiCell r20.1)] 25]) rfl ?_
      refine wa rfl ?_
      refine wl_x ?_
      refine wc_ret ?_
      refine wk_then_ret ?_
      refine WK.upBlk (i := 0) (cs' := [rS ([] : Str), rS ([] : Str), rS ([] : Str), rS ([] : Str), rI .i64 0, rS ([] : Str), rSl 4 (List.map eTApiCell ([] : List TApiCell))]) rfl ⟨Up.refl _, Up.refl _, Up.refl _, Up.refl _, Up.refl _, Up.refl _, Up.le (Rle.nil _), trivial⟩ ?_
      obtain rfl := some_e h41
      exact wk_ret (r_2 Tryz.results9 (rv_ca (i := 0) Tryz.isAgg25 Tryz.sizeOf25 rfl rfl rfl) (rv_t rfl)) (sS (sS sN)) ⟨rfl, rfl⟩
     ·have h42 := cnd_f c40 h38
      refine wc_skip ?_
      refine wk_x ?_
      refine wc_sr ?_
      refine wv (o_load_agg (i := 1) Tryz.isAgg25 Tryz.sizeOf25 rfl rfl rfl rfl) ?_
      refine u_store_agg (i := 0) Tryz.sizeOf25 rfl rfl rfl (OneAll.c rfl) rfl rfl (cs' := [rS (at' r2.1 0), rS (at' r2.1 1), rS (at' r2.1 2), rS (at' r2.1 3), rI .i64 (parseV (at' r2.1 4)), rS (at' r2.1 5), rSl 4 (List.map eTApiCell r20.1)]) rfl (H' := [.blk b1 [rS (at' r2.1 0), rS (at' r2.1 1), rS (at' r2.1 2), rS (at' r2.1 3), rI .i64 (parseV (at' r2.1 4)), rS (at' r2.1 5), rSl 4 (List.map eTApiCell r20.1)] 25, .blk b36 [rS (at' r2.1 0), rS (at' r2.1 1), rS (at' r2.1 2), rS (at' r2.1 3), rI .i64 (parseV (at' r2.1 4)), rS (at' r2.1 5), rSl 4 (List.map eTApiCell r20.1)] 25]) rfl ?_
      refine wv (r := rI .i64 0) (o_assign rfl) ?_
      refine wl_x ?_
      refine wc_ret ?_
      obtain rfl := some_e h42
      exact wk_ret (r_2 Tryz.results9 (rv_ca (i := 0) Tryz.isAgg25 Tryz.sizeOf25 rfl rfl rfl) (rv_t rfl)) (sS (sS sN)) ⟨rfl, rfl⟩

theorem eSame_w (F : Nat) (a : TApiEvent) (b : TApiEvent) (r : Bool) (h : eSame F a b = some r) : Fn Tryz.prog GE 13 [rAgg (eTApiEvent a), rAgg (eTApiEvent b)] [] (fun R H => R = rB r ∧ H = []) := by
 refine enter (n := 52) Tryz.func13 rfl Tryz.ntmps13 rfl (fun w Z => ?_)
 refine wc_as (l' := [(0, rAgg (eTApiEvent a)), (1, rAgg (eTApiEvent b))]) (H' := []) rfl rfl ?_
 unfold eSame at h
 refine wc_sr ?_
 refine w_box_agg rfl rfl (fun b1 => ?_)
 refine w_box_agg rfl rfl (fun b2 => ?_)
 refine wv (r := rB false) (o_assign rfl) ?_
 refine wl_x ?_
 obtain ⟨g3, h4⟩ := chk_e h
 refine wc_seq_mid [(4, rB ((decide (a.fID = b.fID)) && ((decide (a.fTenant = b.fTenant)) && ((decide (a.fSource = b.fSource)) && ((decide (a.fKey = b.fKey)) && ((decide (a.fAt = b.fAt)) && ((decide (a.fCause = b.fCause)) && (ov (slEqual F a.fBody b.fBody)))))))))] [] ?_ ?_
 ·refine wc_region ?_
  refine wv (o_fieldAddr Tryz.underlying25 rfl Tryz.sizeOf9 rfl rfl) ?_
  refine wv (o_load (i := 1) Tryz.isAgg9 rfl rfl rfl) ?_
  refine wv (o_fieldAddr Tryz.underlying25 rfl Tryz.sizeOf9 rfl rfl) ?_
  refine wv (o_load (i := 0) Tryz.isAgg9 rfl rfl rfl) ?_
  refine wv (o_seq rfl rfl) ?_
  refine wm rfl ?_
  refine bsplit (decide (a.fID = b.fID)) (fun c5 => ?_) (fun c5 => ?_)
  ·refine wo c5 ?_
   refine wv (o_fieldAddr Tryz.underlying25 rfl Tryz.sizeOf9 rfl rfl) ?_
   refine wo c5 ?_
   refine wv (o_load (i := 1) Tryz.isAgg9 rfl rfl rfl) ?_
   refine wo c5 ?_
   refine wv (o_fieldAddr Tryz.underlying25 rfl Tryz.sizeOf9 rfl rfl) ?_
   refine wo c5 ?_
   refine wv (o_load (i := 0) Tryz.isAgg9 rfl rfl rfl) ?_
   refine wo c5 ?_
   refine wv (o_seq rfl rfl) ?_
   refine wpt rfl c5 rfl ?_
   refine wm rfl ?_
   refine bsplit (decide (a.fTenant = b.fTenant)) (fun c6 => ?_) (fun c6 => ?_)
   ·refine wo c6 ?_
    refine wv (o_fieldAddr Tryz.underlying25 rfl Tryz.sizeOf9 rfl rfl) ?_
    refine wo c6 ?_
    refine wv (o_load (i := 1) Tryz.isAgg9 rfl rfl rfl) ?_
    refine wo c6 ?_
    refine wv (o_fieldAddr Tryz.underlying25 rfl Tryz.sizeOf9 rfl rfl) ?_
    refine wo c6 ?_
    refine wv (o_load (i := 0) Tryz.isAgg9 rfl rfl rfl) ?_
    refine wo c6 ?_
    refine wv (o_seq rfl rfl) ?_
    refine wpt rfl c6 rfl ?_
    refine wm rfl ?_
    refine bsplit (decide (a.fSource = b.fSource)) (fun c7 => ?_) (fun c7 => ?_)
    ·refine wo c7 ?_
     refine wv (o_fieldAddr Tryz.underlying25 rfl Tryz.sizeOf9 rfl rfl) ?_
     refine wo c7 ?_
     refine wv (o_load (i := 1) Tryz.isAgg9 rfl rfl rfl) ?_
     refine wo c7 ?_
     refine wv (o_fieldAddr Tryz.underlying25 rfl Tryz.sizeOf9 rfl rfl) ?_
     refine wo c7 ?_
     refine wv (o_load (i := 0) Tryz.isAgg9 rfl rfl rfl) ?_
     refine wo c7 ?_
     refine wv (o_seq rfl rfl) ?_
     refine wpt rfl c7 rfl ?_
     refine wm rfl ?_
     refine bsplit (decide (a.fKey = b.fKey)) (fun c8 => ?_) (fun c8 => ?_)
     ·refine wo c8 ?_
      refine wv (o_fieldAddr Tryz.underlying25 rfl Tryz.sizeOf3 rfl rfl) ?_
      refine wo c8 ?_
      refine wv (o_load (i := 1) Tryz.isAgg3 rfl rfl rfl) ?_
      refine wo c8 ?_
      refine wv (o_fieldAddr Tryz.underlying25 rfl Tryz.sizeOf3 rfl rfl) ?_
      refine wo c8 ?_
      refine wv (o_load (i := 0) Tryz.isAgg3 rfl rfl rfl) ?_
      refine wo c8 ?_
      refine wv (o_eq rfl rfl) ?_
      refine wpt rfl c8 rfl ?_
      refine wm rfl ?_
      refine bsplit (decide (a.fAt = b.fAt)) (fun c9 => ?_) (fun c9 => ?_)
      ·refine wo c9 ?_
       refine wv (o_fieldAddr Tryz.underlying25 rfl Tryz.sizeOf9 rfl rfl) ?_
       refine wo c9 ?_
       refine wv (o_load (i := 1) Tryz.isAgg9 rfl rfl rfl) ?_
       refine wo c9 ?_
       refine wv (o_fieldAddr Tryz.underlying25 rfl Tryz.sizeOf9 rfl rfl) ?_
       refine wo c9 ?_
       refine wv (o_load (i := 0) Tryz.isAgg9 rfl rfl rfl) ?_
       refine wo c9 ?_
       refine wv (o_seq rfl rfl) ?_
       refine wpt rfl c9 rfl ?_
       refine wm rfl ?_
       refine bsplit (decide (a.fCause = b.fCause)) (fun c10 => ?_) (fun c10 => ?_)
       ·refine wo c10 ?_
        refine wv (o_fieldAddr Tryz.underlying25 rfl Tryz.sizeOf23 rfl rfl) ?_
        refine wo c10 ?_
        refine wv (o_load (i := 1) Tryz.isAgg23 rfl rfl rfl) ?_
        refine wo c10 ?_
        refine wv (o_fieldAddr Tryz.underlying25 rfl Tryz.sizeOf23 rfl rfl) ?_
        refine wo c10 ?_
        refine wv (o_load (i := 0) Tryz.isAgg23 rfl rfl rfl) ?_
        refine wo c10 ?_
        refine wc0 Tryz.call35 (slEqual_w F a.fBody b.fBody (ov (slEqual F a.fBody b.fBody)) (ov_e (imp_t (imp_t (imp_t (imp_t (imp_t (imp_t g3 c5) c6) c7) c8) c9) c10))) rfl ?_
        refine wpt rfl c10 rfl ?_
        refine wa rfl ?_
        refine wl_nil ?_
        exact wtc (And.intro c5 (And.intro c6 (And.intro c7 (And.intro c8 (And.intro c9 c10)))))
       ·refine wf c10 ?_
        refine wf c10 ?_
        refine wf c10 ?_
        refine wf c10 ?_
        refine wf c10 ?_
        refine wv (r := rB false) (o_pick_f (b := decide (a.fCause = b.fCause)) rfl c10 rfl) ?_
        refine wa rfl ?_
        refine wl_nil ?_
        exact wtc (And.intro c5 (And.intro c6 (And.intro c7 (And.intro c8 (And.intro c9 c10)))))
      ·refine wf c9 ?_
       refine wf c9 ?_
       refine wf c9 ?_
       refine wf c9 ?_
       refine wf c9 ?_
       refine wv (r := rB false) (o_pick_f (b := decide (a.fAt = b.fAt)) rfl c9 rfl) ?_
       refine wm rfl ?_
       refine wl_off (b := false) rfl rfl rfl rfl ?_
       refine wl_off (b := false) rfl rfl rfl rfl ?_
       refine wl_off (b := false) rfl rfl rfl rfl ?_
       refine wl_off (b := false) rfl rfl rfl rfl ?_
       refine wl_off (b := false) rfl rfl rfl rfl ?_
       refine wv (r := rB false) (o_pick_f (b := false) rfl rfl rfl) ?_
       refine wa rfl ?_
       refine wl_nil ?_
       exact wtc (And.intro c5 (And.intro c6 (And.intro c7 (And.intro c8 c9))))
     ·refine wf c8 ?_
      refine wf c8 ?_
      refine wf c8 ?_
      refine wf c8 ?_
      refine wf c8 ?_
      refine wv (r := rB false) (o_pick_f (b := decide (a.fKey = b.fKey)) rfl c8 rfl) ?_
      refine wm rfl ?_
      refine wl_off (b := false) rfl rfl rfl rfl ?_
      refine wl_off (b := false) rfl rfl rfl rfl ?_
      refine wl_off (b := false) rfl rfl rfl rfl ?_
      refine wl_off (b := false) rfl rfl rfl rfl ?_
      refine wl_off (b := false) rfl rfl rfl rfl ?_
      refine wv (r := rB false) (o_pick_f (b := false) rfl rfl rfl) ?_
      refine wm rfl ?_
      refine wl_off (b := false) rfl rfl rfl rfl ?_
      refine wl_off (b := false) rfl rfl rfl rfl ?_
      refine wl_off (b := false) rfl rfl rfl rfl ?_
      refine wl_off (b := false) rfl rfl rfl rfl ?_
      refine wl_off (b := false) rfl rfl rfl rfl ?_
      refine wv (r := rB false) (o_pick_f (b := false) rfl rfl rfl) ?_
      refine wa rfl ?_
      refine wl_nil ?_
      exact wtc (And.intro c5 (And.intro c6 (And.intro c7 c8)))
    ·refine wf c7 ?_
     refine wf c7 ?_
     refine wf c7 ?_
     refine wf c7 ?_
     refine wf c7 ?_
     refine wv (r := rB false) (o_pick_f (b := decide (a.fSource = b.fSource)) rfl c7 rfl) ?_
     refine wm rfl ?_
     refine wl_off (b := false) rfl rfl rfl rfl ?_
     refine wl_off (b := false) rfl rfl rfl rfl ?_
     refine wl_off (b := false) rfl rfl rfl rfl ?_
     refine wl_off (b := false) rfl rfl rfl rfl ?_
     refine wl_off (b := false) rfl rfl rfl rfl ?_
     refine wv (r := rB false) (o_pick_f (b := false) rfl rfl rfl) ?_
     refine wm rfl ?_
     refine wl_off (b := false) rfl rfl rfl rfl ?_
     refine wl_off (b := false) rfl rfl rfl rfl ?_
     refine wl_off (b := false) rfl rfl rfl rfl ?_
     refine wl_off (b := false) rfl rfl rfl rfl ?_
     refine wl_off (b := false) rfl rfl rfl rfl ?_
     refine wv (r := rB false) (o_pick_f (b := false) rfl rfl rfl) ?_
     refine wm rfl ?_
     refine wl_off (b := false) rfl rfl rfl rfl ?_
     refine wl_off (b := false) rfl rfl rfl rfl ?_
     refine wl_off (b := false) rfl rfl rfl rfl ?_
     refine wl_off (b := false) rfl rfl rfl rfl ?_
     refine wl_off (b := false) rfl rfl rfl rfl ?_
     refine wv (r := rB false) (o_pick_f (b := false) rfl rfl rfl) ?_
     refine wa rfl ?_
     refine wl_nil ?_
     exact wtc (And.intro c5 (And.intro c6 c7))
   ·refine wf c6 ?_
    refine wf c6 ?_
    refine wf c6 ?_
    refine wf c6 ?_
    refine wf c6 ?_
    refine wv (r := rB false) (o_pick_f (b := decide (a.fTenant = b.fTenant)) rfl c6 rfl) ?_
    refine wm rfl ?_
    refine wl_off (b := false) rfl rfl rfl rfl ?_
    refine wl_off (b := false) rfl rfl rfl rfl ?_
    refine wl_off (b := false) rfl rfl rfl rfl ?_
    refine wl_off (b := false) rfl rfl rfl rfl ?_
    refine wl_off (b := false) rfl rfl rfl rfl ?_
    refine wv (r := rB false) (o_pick_f (b := false) rfl rfl rfl) ?_
    refine wm rfl ?_
    refine wl_off (b := false) rfl rfl rfl rfl ?_
    refine wl_off (b := false) rfl rfl rfl rfl ?_
    refine wl_off (b := false) rfl rfl rfl rfl ?_
    refine wl_off (b := false) rfl rfl rfl rfl ?_
    refine wl_off (b := false) rfl rfl rfl rfl ?_
    refine wv (r := rB false) (o_pick_f (b := false) rfl rfl rfl) ?_
    refine wm rfl ?_
    refine wl_off (b := false) rfl rfl rfl rfl ?_
    refine wl_off (b := false) rfl rfl rfl rfl ?_
    refine wl_off (b := false) rfl rfl rfl rfl ?_
    refine wl_off (b := false) rfl rfl rfl rfl ?_
    refine wl_off (b := false) rfl rfl rfl rfl ?_
    refine wv (r := rB false) (o_pick_f (b := false) rfl rfl rfl) ?_
    refine wm rfl ?_
    refine wl_off (b := false) rfl rfl rfl rfl ?_
    refine wl_off (b := false) rfl rfl rfl rfl ?_
    refine wl_off (b := false) rfl rfl rfl rfl ?_
    refine wl_off (b := false) rfl rfl rfl rfl ?_
    refine wl_off (b := false) rfl rfl rfl rfl ?_
    refine wv (r := rB false) (o_pick_f (b := false) rfl rfl rfl) ?_
    refine wa rfl ?_
    refine wl_nil ?_
    exact wtc (And.intro c5 c6)
  ·refine wf c5 ?_
   refine wf c5 ?_
   refine wf c5 ?_
   refine wf c5 ?_
   refine wf c5 ?_
   refine wv (r := rB false) (o_pick_f (b := decide (a.fID = b.fID)) rfl c5 rfl) ?_
   refine wm rfl ?_
   refine wl_off (b := false) rfl rfl rfl rfl ?_
   refine wl_off (b := false) rfl rfl rfl rfl ?_
   refine wl_off (b := false) rfl rfl rfl rfl ?_
   refine wl_off (b := false) rfl rfl rfl rfl ?_
   refine wl_off (b := false) rfl rfl rfl rfl ?_
   refine wv (r := rB false) (o_pick_f (b := false) rfl rfl rfl) ?_
   refine wm rfl ?_
   refine wl_off (b := false) rfl rfl rfl rfl ?_
   refine wl_off (b := false) rfl rfl rfl rfl ?_
   refine wl_off (b := false) rfl rfl rfl rfl ?_
   refine wl_off (b := false) rfl rfl rfl rfl ?_
   refine wl_off (b := false) rfl rfl rfl rfl ?_
   refine wv (r := rB false) (o_pick_f (b := false) rfl rfl rfl) ?_
   refine wm rfl ?_
   refine wl_off (b := false) rfl rfl rfl rfl ?_
   refine wl_off (b := false) rfl rfl rfl rfl ?_
   refine wl_off (b := false) rfl rfl rfl rfl ?_
   refine wl_off (b := false) rfl rfl rfl rfl ?_
   refine wl_off (b := false) rfl rfl rfl rfl ?_
   refine wv (r := rB false) (o_pick_f (b := false) rfl rfl rfl) ?_
   refine wm rfl ?_
   refine wl_off (b := false) rfl rfl rfl rfl ?_
   refine wl_off (b := false) rfl rfl rfl rfl ?_
   refine wl_off (b := false) rfl rfl rfl rfl ?_
   refine wl_off (b := false) rfl rfl rfl rfl ?_
   refine wl_off (b := false) rfl rfl rfl rfl ?_
   refine wv (r := rB false) (o_pick_f (b := false) rfl rfl rfl) ?_
   refine wm rfl ?_
   refine wl_off (b := false) rfl rfl rfl rfl ?_
   refine wl_off (b := false) rfl rfl rfl rfl ?_
   refine wl_off (b := false) rfl rfl rfl rfl ?_
   refine wl_off (b := false) rfl rfl rfl rfl ?_
   refine wl_off (b := false) rfl rfl rfl rfl ?_
   refine wv (r := rB false) (o_pick_f (b := false) rfl rfl rfl) ?_
   refine wa rfl ?_
   refine wl_nil ?_
   exact wtc c5
 refine wc_ret ?_
 obtain rfl := some_e h4
 exact wk_ret (r_1 Tryz.results13 (rv_t rfl)) sN ⟨rfl, rfl⟩

theorem eCmp_w (a : TApiEvent) (b : TApiEvent) (r : Int) (h : eCmp a b = some r) : Fn Tryz.prog GE 14 [rAgg (eTApiEvent a), rAgg (eTApiEvent b)] [] (fun R H => R = rI .i64 r ∧ H = []) := by
 refine enter (n := 22) Tryz.func14 rfl Tryz.ntmps14 rfl (fun w Z => ?_)
 refine wc_as (l' := [(0, rAgg (eTApiEvent a)), (1, rAgg (eTApiEvent b))]) (H' := []) rfl rfl ?_
 unfold eCmp at h
 refine wc_sr ?_
 refine w_box_agg rfl rfl (fun b1 => ?_)
 refine w_box_agg rfl rfl (fun b2 => ?_)
 refine wv (r := rI .i64 0) (o_assign rfl) ?_
 refine wl_x ?_
 refine wc_seq ?_
 refine wc_block ?_
 refine wc_sr ?_
 refine wv (o_fieldAddr Tryz.underlying25 rfl Tryz.sizeOf3 rfl rfl) ?_
 refine wv (o_load (i := 1) Tryz.isAgg3 rfl rfl rfl) ?_
 refine wv (o_fieldAddr Tryz.underlying25 rfl Tryz.sizeOf3 rfl rfl) ?_
 refine wv (o_load (i := 0) Tryz.isAgg3 rfl rfl rfl) ?_
 refine wv (o_lt rfl rfl) ?_
 refine wa rfl ?_
 refine wl_x ?_
 refine wc_cond (b := decide (a.fAt < b.fAt)) rfl (fun c3 => ?_) (fun c3 => ?_)
 ·have h4 := cnd_t c3 h
  refine wc_sr ?_
  refine wv (r := rI .i64 (-1)) (o_assign rfl) ?_
  refine wl_x ?_
  refine wc_ret ?_
  refine wk_in_ret ?_
  refine wk_then_ret ?_
  obtain rfl := some_e h4
  exact wk_ret (r_1 Tryz.results14 (rv_t rfl)) (sS (sS sN)) ⟨rfl, rfl⟩
 ·have h5 := cnd_f c3 h
  refine wc_sr ?_
  refine wv (o_fieldAddr Tryz.underlying25 rfl Tryz.sizeOf3 rfl rfl) ?_
  refine wv (o_load (i := 1) Tryz.isAgg3 rfl rfl rfl) ?_
  refine wv (o_fieldAddr Tryz.underlying25 rfl Tryz.sizeOf3 rfl rfl) ?_
  refine wv (o_load (i := 0) Tryz.isAgg3 rfl rfl rfl) ?_
  refine wv (o_gt rfl rfl) ?_
  refine wa rfl ?_
  refine wl_x ?_
  refine wc_cond (b := decide (b.fAt < a.fAt)) rfl (fun c6 => ?_) (fun c6 => ?_)
  ·have h7 := cnd_t c6 h5
   refine wc_sr ?_
   refine wv (r := rI .i64 1) (o_assign rfl) ?_
   refine wl_x ?_
   refine wc_ret ?_
   refine wk_in_ret ?_
   refine wk_then_ret ?_
   obtain rfl := some_e h7
   exact wk_ret (r_1 Tryz.results14 (rv_t rfl)) (sS (sS sN)) ⟨rfl, rfl⟩
  ·have h8 := cnd_f c6 h5
   refine wc_skip ?_
   refine wk_in_norm ?_
   refine wk_x ?_
   refine wc_sr ?_
   refine wv (o_fieldAddr Tryz.underlying25 rfl Tryz.sizeOf9 rfl rfl) ?_
   refine wv (o_load (i := 1) Tryz.isAgg9 rfl rfl rfl) ?_
   refine wv (o_fieldAddr Tryz.underlying25 rfl Tryz.sizeOf9 rfl rfl) ?_
   refine wv (o_load (i := 0) Tryz.isAgg9 rfl rfl rfl) ?_
   refine w_call0 (rs := [rS a.fID, rS b.fID]) (r := rI .i64 (Lib.compareBytes a.fID b.fID)) Tryz.call36 rfl (compare_q a.fID b.fID) rfl rfl ?_
   refine wa rfl ?_
   refine wl_x ?_
   refine wc_ret ?_
   obtain rfl := some_e h8
   exact wk_ret (r_1 Tryz.results14 (rv_t rfl)) (sS (sS sN)) ⟨rfl, rfl⟩

theorem eChild_w (F : Nat) (e : TApiEvent) (n : Int) (source : Str) (body : (List TApiCell)) (at_ : Int) (r : TApiEvent × Int) (h : eChild F e n source body at_ = some r) : Fn Tryz.prog GE 17 [rAgg (eTApiEvent e), rI .i64 n, rS source, rSl 4 (List.map eTApiCell body), rI .i64 at_] [] (fun R H => R = rTup [rAgg (eTApiEvent r.1), rI .i64 r.2] ∧ H = []) := by
 refine enter (n := 53) Tryz.func17 rfl Tryz.ntmps17 rfl (fun w Z => ?_)
 refine wc_as (l' := [(0, rAgg (eTApiEvent e)), (1, rI .i64 n), (2, rS source), (3, rSl 4 (List.map eTApiCell body)), (4, rI .i64 at_)]) (H' := []) rfl rfl ?_
 unfold eChild at h
 refine wc_sr ?_
 refine w_box_agg rfl rfl (fun b1 => ?_)
 refine w_alloc (cs := [rS ([] : Str), rS ([] : Str), rS ([] : Str), rS ([] : Str), rI .i64 0, rS ([] : Str), rv (.slice none 0 0)]) Tryz.zeroValue25 rfl rfl (fun b2 => ?_)
 refine wv (r := rI .i64 0) (o_assign rfl) ?_
 refine wl_x ?_
 refine wc_seq ?_
 refine wc_sr ?_
 refine wv (o_load_agg (i := 1) Tryz.isAgg25 Tryz.sizeOf25 rfl rfl rfl rfl) ?_
 obtain ⟨r3, e5, h4⟩ := obn_e h
 refine wc0 Tryz.call25 (eCheck_w F e r3 e5) rfl ?_
 refine wa rfl ?_
 refine wl_y ?_
 refine wm rfl ?_
 refine wv (o_ne rfl rfl) ?_
 refine wl_x ?_
 refine wc_cond (b := !decide (r3 = 0)) rfl (fun c6 => ?_) (fun c6 => ?_)
 ·have h7 := cnd_t c6 h4
  refine wc_sr ?_
  refine wv (r := rAgg [rS ([] : Str), rS ([] : Str), rS ([] : Str), rS ([] : Str), rI .i64 0, rS ([] : Str), rv (.slice none 0 0)]) (o_build25_ ) ?_
  refine wm rfl ?_
  refine u_store_agg (i := 0) Tryz.sizeOf25 rfl rfl rfl (OneAll.c rfl) rfl rfl (cs' := [rS ([] : Str), rS ([] : Str), rS ([] : Str), rS ([] : Str), rI .i64 0, rS ([] : Str), rv (.slice none 0 0)]) rfl (H' := [.blk b2 [rS ([] : Str), rS ([] : Str), rS ([] : Str), rS ([] : Str), rI .i64 0, rS ([] : Str), rv (.slice none 0 0)] 25, .blk b1 (eTApiEvent e) 25]) rfl ?_
  refine wa rfl ?_
  refine wl_x ?_
  refine wc_ret ?_
  refine wk_then_ret ?_
  refine WK.upBlk (i := 0) (cs' := [rS ([] : Str), rS ([] : Str), rS ([] : Str), rS ([] : Str), rI .i64 0, rS ([] : Str), rSl 4 (List.map eTApiCell ([] : List TApiCell))]) rfl ⟨Up.refl _, Up.refl _, Up.refl _, Up.refl _, Up.refl _, Up.refl _, Up.le (Rle.nil _), trivial⟩ ?_
  obtain rfl := some_e h7
  exact wk_ret (r_2 Tryz.results17 (rv_ca (i := 0) Tryz.isAgg25 Tryz.sizeOf25 rfl rfl rfl) (rv_t rfl)) (sS (sS sN)) ⟨rfl, rfl⟩
 ·have h8 := cnd_f c6 h4
  refine wc_skip ?_
  refine wk_x ?_
  refine wc_sr ?_
  refine wv (o_fieldAddr Tryz.underlying25 rfl Tryz.sizeOf9 rfl rfl) ?_
  refine wv (o_load (i := 1) Tryz.isAgg9 rfl rfl rfl) ?_
  refine wm rfl ?_
  obtain ⟨g9, h10⟩ := chk_e h8
  obtain ⟨g11, h12⟩ := chk_e h10
  refine w_call0 (rs := [rS e.fID, rI .i64 n]) (r := rTup [rS (childV e.fID n), rI .i64 (childE e.fID n)]) Tryz.call37 rfl (child_q e.fID n g9 g11) rfl rfl ?_
  refine wm rfl ?_
  refine wv (o_extract rfl rfl) ?_
  refine wv (o_extract rfl rfl) ?_
  refine wa rfl ?_
  refine wa rfl ?_
  refine wl_x ?_
  refine wc_seq ?_
  refine wc_sr ?_
  refine wm rfl ?_
  refine wv (o_ne rfl rfl) ?_
  refine wl_x ?_
  refine wc_cond (b := !decide ((childE e.fID n) = 0)) rfl (fun c13 => ?_) (fun c13 => ?_)
  ·have h14 := cnd_t c13 h12
   refine wc_sr ?_
   refine wv (r := rAgg [rS ([] : Str), rS ([] : Str), rS ([] : Str), rS ([] : Str), rI .i64 0, rS ([] : Str), rv (.slice none 0 0)]) (o_build25_ ) ?_
   refine wm rfl ?_
   refine u_store_agg (i := 0) Tryz.sizeOf25 rfl rfl rfl (OneAll.c rfl) rfl rfl (cs' := [rS ([] : Str), rS ([] : Str), rS ([] : Str), rS ([] : Str), rI .i64 0, rS ([] : Str), rv (.slice none 0 0)]) rfl (H' := [.blk b2 [rS ([] : Str), rS ([] : Str), rS ([] : Str), rS ([] : Str), rI .i64 0, rS ([] : Str), rv (.slice none 0 0)] 25, .blk b1 (eTApiEvent e) 25]) rfl ?_
   refine wa rfl ?_
   refine wl_x ?_
   refine wc_ret ?_
   refine wk_then_ret ?_
   refine WK.upBlk (i := 0) (cs' := [rS ([] : Str), rS ([] : Str), rS ([] : Str), rS ([] : Str), rI .i64 0, rS ([] : Str), rSl 4 (List.map eTApiCell ([] : List TApiCell))]) rfl ⟨Up.refl _, Up.refl _, Up.refl _, Up.refl _, Up.refl _, Up.refl _, Up.le (Rle.nil _), trivial⟩ ?_
   obtain rfl := some_e h14
   exact wk_ret (r_2 Tryz.results17 (rv_ca (i := 0) Tryz.isAgg25 Tryz.sizeOf25 rfl rfl rfl) (rv_t rfl)) (sS (sS sN)) ⟨rfl, rfl⟩
  ·have h15 := cnd_f c13 h12
   refine wc_skip ?_
   refine wk_x ?_
   refine wc_seq ?_
   obtain ⟨r16, e18, h17⟩ := obn_e h15
   refine wc_rdak 13 [2, 3, 4, 5, 10, 13] [⟨[], rS (childV e.fID n), none, none, none⟩, ⟨[], rv (.pointer (some ⟨b1, 1, none⟩)), none, none, none⟩, ⟨[1], rS e.fTenant, none, none, none⟩, ⟨[], rS source, none, none, none⟩, ⟨[], rv (.pointer (some ⟨b1, 3, none⟩)), none, none, none⟩, ⟨[4], rS e.fKey, none, none, none⟩, ⟨[], rI .i64 at_, none, none, none⟩, ⟨[], rv (.pointer (some ⟨b1, 0, none⟩)), none, none, none⟩, ⟨[7], rS e.fID, none, none, none⟩, ⟨[], rSl 4 (List.map eTApiCell body), none, none, none⟩, ⟨[9], rSl 4 (List.map eTApiCell r16), none, none, none⟩, ⟨[0, 2, 3, 5, 6, 8, 10], rAgg [rS (childV e.fID n), rS e.fTenant, rS source, rS e.fKey, rI .i64 at_, rS e.fID, rSl 4 (List.map eTApiCell r16)], none, none, none⟩, ⟨[], rv undef, some ([rS ([] : Str), rS ([] : Str), rS ([] : Str), rS ([] : Str), rI .i64 0, rS ([] : Str), rv (.slice none 0 0)], 25), none, none⟩] ?_ (fun β => ?_)
   ·refine oaq (o_move rfl) ?_
    refine oaq (o_fieldAddr Tryz.underlying25 rfl Tryz.sizeOf9 rfl rfl) ?_
    refine oaf (o_load (i := 1) Tryz.isAgg9 rfl rfl rfl) ?_
    refine oaq (o_move rfl) ?_
    refine oaq (o_fieldAddr Tryz.underlying25 rfl Tryz.sizeOf9 rfl rfl) ?_
    refine oaf (o_load (i := 1) Tryz.isAgg9 rfl rfl rfl) ?_
    refine oaq (o_move rfl) ?_
    refine oaq (o_fieldAddr Tryz.underlying25 rfl Tryz.sizeOf9 rfl rfl) ?_
    refine oaf (o_load (i := 1) Tryz.isAgg9 rfl rfl rfl) ?_
    refine oaq (o_move rfl) ?_
    refine oac (ok_c0 Tryz.call38 (cloneN_w body r16 e18) rfl) ?_
    refine oaq (o_build25_0_1_2_3_4_5_6 rfl rfl rfl rfl rfl rfl rfl rfl rfl rfl rfl rfl rfl rfl) ?_
    refine oal (al_ok (cs := [rS ([] : Str), rS ([] : Str), rS ([] : Str), rS ([] : Str), rI .i64 0, rS ([] : Str), rv (.slice none 0 0)]) Tryz.zeroValue25 rfl) ?_
    exact oae
   refine wl_kza (H1 := [.blk b2 [rS ([] : Str), rS ([] : Str), rS ([] : Str), rS ([] : Str), rI .i64 0, rS ([] : Str), rv (.slice none 0 0)] 25, .blk b1 (eTApiEvent e) 25, .blk (β 12) [rS ([] : Str), rS ([] : Str), rS ([] : Str), rS ([] : Str), rI .i64 0, rS ([] : Str), rv (.slice none 0 0)] 25]) [34, 35, 36, 37, 38, 39, 40, 41, 42, 43, 44, 45, 15, 2, 3, 4, 5, 10, 13] ?_
   generalize β 12 = b19
   refine u_store_agg (i := 2) Tryz.sizeOf25 rfl rfl rfl (OneAll.c rfl) rfl rfl (cs' := [rS (childV e.fID n), rS e.fTenant, rS source, rS e.fKey, rI .i64 at_, rS e.fID, rSl 4 (List.map eTApiCell r16)]) rfl (H' := [.blk b2 [rS ([] : Str), rS ([] : Str), rS ([] : Str), rS ([] : Str), rI .i64 0, rS ([] : Str), rv (.slice none 0 0)] 25, .blk b1 (eTApiEvent e) 25, .blk b19 [rS (childV e.fID n), rS e.fTenant, rS source, rS e.fKey, rI .i64 at_, rS e.fID, rSl 4 (List.map eTApiCell r16)] 25]) rfl ?_
   refine wl_x ?_
   refine wc_seq ?_
   refine wc_sr ?_
   refine wv (o_load_agg (i := 2) Tryz.isAgg25 Tryz.sizeOf25 rfl rfl rfl rfl) ?_
   obtain ⟨r20, e22, h21⟩ := obn_e h17
   refine wc0 Tryz.call25 (eCheck_w F (TApiEvent.mk (childV e.fID n) e.fTenant source e.fKey at_ e.fID r16) r20 e22) rfl ?_
   refine wa rfl ?_
   refine wl_y ?_
   refine wm rfl ?_
   refine wv (o_ne rfl rfl) ?_
   refine wl_x ?_
   refine wc_cond (b := !decide (r20 = 0)) rfl (fun c23 => ?_) (fun c23 => ?_)
   ·have h24 := cnd_t c23 h21
    refine wc_sr ?_
    refine wv (r := rAgg [rS ([] : Str), rS ([] : Str), rS ([] : Str), rS ([] : Str), rI .i64 0, rS ([] : Str), rv (.slice none 0 0)]) (o_build25_ ) ?_
    refine wm rfl ?_
    refine u_store_agg (i := 0) Tryz.sizeOf25 rfl rfl rfl (OneAll.c rfl) rfl rfl (cs' := [rS ([] : Str), rS ([] : Str), rS ([] : Str), rS ([] : Str), rI .i64 0, rS ([] : Str), rv (.slice none 0 0)]) rfl (H' := [.blk b2 [rS ([] : Str), rS ([] : Str), rS ([] : Str), rS ([] : Str), rI .i64 0, rS ([] : Str), rv (.slice none 0 0)] 25, .blk b1 (eTApiEvent e) 25, .blk b19 [rS (childV e.fID n), rS e.fTenant, rS source, rS e.fKey, rI .i64 at_, rS e.fID, rSl 4 (List.map eTApiCell r16)] 25]) rfl ?_
    refine wa rfl ?_
    refine wl_x ?_
    refine wc_ret ?_
    refine wk_then_ret ?_
    refine WK.upBlk (i := 0) (cs' := [rS ([] : Str), rS ([] : Str), rS ([] : Str), rS ([] : Str), rI .i64 0, rS ([] : Str), rSl 4 (List.map eTApiCell ([] : List TApiCell))]) rfl ⟨Up.refl _, Up.refl _, Up.refl _, Up.refl _, Up.refl _, Up.refl _, Up.le (Rle.nil _), trivial⟩ ?_
    obtain rfl := some_e h24
    exact wk_ret (r_2 Tryz.results17 (rv_ca (i := 0) Tryz.isAgg25 Tryz.sizeOf25 rfl rfl rfl) (rv_t rfl)) (sS (sS (sS sN))) ⟨rfl, rfl⟩
   ·have h25 := cnd_f c23 h21
    refine wc_skip ?_
    refine wk_x ?_
    refine wc_sr ?_
    refine wv (o_load_agg (i := 2) Tryz.isAgg25 Tryz.sizeOf25 rfl rfl rfl rfl) ?_
    refine u_store_agg (i := 0) Tryz.sizeOf25 rfl rfl rfl (OneAll.c rfl) rfl rfl (cs' := [rS (childV e.fID n), rS e.fTenant, rS source, rS e.fKey, rI .i64 at_, rS e.fID, rSl 4 (List.map eTApiCell r16)]) rfl (H' := [.blk b2 [rS (childV e.fID n), rS e.fTenant, rS source, rS e.fKey, rI .i64 at_, rS e.fID, rSl 4 (List.map eTApiCell r16)] 25, .blk b1 (eTApiEvent e) 25, .blk b19 [rS (childV e.fID n), rS e.fTenant, rS source, rS e.fKey, rI .i64 at_, rS e.fID, rSl 4 (List.map eTApiCell r16)] 25]) rfl ?_
    refine wv (r := rI .i64 0) (o_assign rfl) ?_
    refine wl_x ?_
    refine wc_ret ?_
    obtain rfl := some_e h25
    exact wk_ret (r_2 Tryz.results17 (rv_ca (i := 0) Tryz.isAgg25 Tryz.sizeOf25 rfl rfl rfl) (rv_t rfl)) (sS (sS (sS sN))) ⟨rfl, rfl⟩

theorem eLineage_w (F : Nat) (id : Str) (r : (List Str)) (h : eLineage F id = some r) : Fn Tryz.prog GE 19 [rS id] [] (fun R H => R = rSl 1 (List.map eS r) ∧ H = []) := by
 refine enter (n := 30) Tryz.func19 rfl Tryz.ntmps19 rfl (fun w Z => ?_)
 refine wc_as (l' := [(0, rS id)]) (H' := []) rfl rfl ?_
 unfold eLineage at h
 refine wc_sr ?_
 refine wv (r := rv (.slice none 0 0)) (o_assign rfl) ?_
 refine wl_x ?_
 refine wc_seq ?_
 refine wc_sr ?_
 refine wm rfl ?_
 refine w_call0 (rs := [rS id]) (r := rB (idS id)) Tryz.call40 rfl (id_q id) rfl rfl ?_
 refine wv (o_not rfl) ?_
 refine wl_x ?_
 refine wc_cond (b := !(idS id)) rfl (fun c1 => ?_) (fun c1 => ?_)
 ·have h2 := cnd_t c1 h
  refine wc_sr ?_
  refine wv (r := rv (.slice none 0 0)) (o_assign rfl) ?_
  refine wl_x ?_
  refine wc_ret ?_
  refine wk_then_ret ?_
  refine WK.up (d := 2) (r := rSl 1 (List.map eS ([] : List Str))) rfl (Up.le (Rle.nil _)) ?_
  obtain rfl := some_e h2
  exact wk_ret (r_1 Tryz.results19 (rv_t rfl)) sN ⟨rfl, rfl⟩
 ·have h3 := cnd_f c1 h
  refine wc_skip ?_
  refine wk_x ?_
  refine wc_sr ?_
  refine wm rfl ?_
  refine w_buildSlice (ys := ([id] : List Str)) (enc := eS) (css := [[rS id]]) (xs := [.tmp 10]) Tryz.underlying36 Tryz.sizeOf9 Tryz.zeroValue9 rfl rfl rfl ⟨Cel.one rfl (Up.refl _), trivial⟩ rfl eS_len rfl rfl rfl (fun b4 => ?_)
  refine wa rfl ?_
  refine wl_x ?_
  refine wc_block ?_
  obtain ⟨o48, eo49, hK50⟩ := obn_e h3
  refine wc_loop2 (S := Nat × ((List Str)) × (Value)) (V := (Unit) × (Unit)) 0 (fun σ => lop (fun σ => eLineage_b1 σ) σ.1 σ.2.1 = some o48) (fun σ => [(2, rv (.slice none 0 0)), (3, rv σ.2.2)]) (fun σ => [.row σ.2.2 9 1 (List.map eS σ.2.1)]) (fun σ => σ.1) (F, ([id] : List Str), (.slice (some ⟨b4, 0, none⟩) 1 1)) eo49 (Sub.c rfl (Sub.c rfl Sub.nil)) (sC sN) (fun σ => eLineage_k1  = some r) (fun σ => []) (fun σ => []) ?_ ?_
  ·rintro ⟨n56, x33, v34⟩ hi54
   refine wc_as (l' := [(2, rv (.slice none 0 0)), (3, rv v34)]) (H' := [.row v34 9 1 (List.map eS x33)]) rfl rfl ?_
   obtain ⟨m53, rfl, t51, h55, ht52⟩ := lop_e hi54
   replace h55 : eLineage_b1 x33 = some t51 := h55
   unfold eLineage_b1 at h55
   refine wc_block ?_
   refine wc_sr ?_
   refine wm rfl ?_
   refine wm rfl ?_
   refine wv (o_len_wt (ys := x33) (enc := eS) (i := 0) Tryz.underlying36 rfl rfl) ?_
   obtain ⟨g57, h58⟩ := chk_e h55
   refine wv (o_sub rfl rfl g57) ?_
   obtain ⟨g59, h60⟩ := chk_e h58
   refine wv (r := rv (elp 1 v34 (Int.toNat ((x33.length : Int) - 1)) 0)) (o_ix_w (i := 0) Tryz.underlying36 Tryz.sizeOf9 rfl rfl rfl (len_map g59)) ?_
   refine wv (r := rS (at' x33 ((x33.length : Int) - 1))) (o_ld_w (enc := eS) (ys := x33) (i := 0) (j := (x33.length : Int) - 1) Tryz.isAgg9 rfl rfl g59 rfl) ?_
   obtain ⟨g61, h62⟩ := chk_e h60
   refine w_call0 (rs := [rS (at' x33 ((x33.length : Int) - 1))]) (r := rTup [rS (iff0 (parOk (at' x33 ((x33.length : Int) - 1))) (parP (at' x33 ((x33.length : Int) - 1)))), rI .i64 (if parOk (at' x33 ((x33.length : Int) - 1)) = true then parseV (parN (at' x33 ((x33.length : Int) - 1))) else (0 : Int)), rB (parOk (at' x33 ((x33.length : Int) - 1)))]) Tryz.call41 rfl (parent_q (at' x33 ((x33.length : Int) - 1)) g61) rfl rfl ?_
   refine wm rfl ?_
   refine wv (o_extract rfl rfl) ?_
   refine wv (o_extract rfl rfl) ?_
   refine wv (o_extract rfl rfl) ?_
   refine wa rfl ?_
   refine wa rfl ?_
   refine wa rfl ?_
   refine wl_x ?_
   refine wc_seq ?_
   refine wc_sr ?_
   refine wm rfl ?_
   refine wv (o_not rfl) ?_
   refine wl_x ?_
   refine wc_cond (b := !(parOk (at' x33 ((x33.length : Int) - 1)))) rfl (fun c63 => ?_) (fun c63 => ?_)
   ·have h64 := cnd_t c63 h62
    refine wc_sr ?_
    refine wm rfl ?_
    refine wa rfl ?_
    refine wl_x ?_
    refine wc_ret ?_
    refine wk_then_ret ?_
    refine wk_in_ret ?_
    refine wk_then_ret ?_
    refine wk_cut_ret ?_
    have h65 := stp_ret h64 ht52 hK50
    refine wk_in_ret ?_
    refine WK.freeze (i := 0) rfl ?_
    refine WK.up (d := 2) (r := rSl 1 (List.map eS x33)) rfl (Up.fact (i := 0) rfl) ?_
    obtain rfl := some_e h65
    exact wk_ret (r_1 Tryz.results19 (rv_t rfl)) (sS sN) ⟨rfl, rfl⟩
   ·have h66 := cnd_f c63 h62
    refine wc_skip ?_
    refine wk_x ?_
    refine wc_region ?_
    refine wm rfl ?_
    refine wm rfl ?_
    refine w_buildSlice (ys := ([iff0 (parOk (at' x33 ((x33.length : Int) - 1))) (parP (at' x33 ((x33.length : Int) - 1)))] : List Str)) (enc := eS) (css := [[rS (iff0 (parOk (at' x33 ((x33.length : Int) - 1))) (parP (at' x33 ((x33.length : Int) - 1))))]]) (xs := [.tmp 27]) Tryz.underlying36 Tryz.sizeOf9 Tryz.zeroValue9 rfl rfl rfl ⟨Cel.one rfl (Up.refl _), trivial⟩ rfl eS_len rfl rfl rfl (fun b67 => ?_)
    obtain ⟨g69, h70⟩ := chk_e h66
    obtain ⟨inf, hinf⟩ := info9
    refine w_append (xs := x33) (ys := ([iff0 (parOk (at' x33 ((x33.length : Int) - 1))) (parP (at' x33 ((x33.length : Int) - 1)))] : List Str)) (enc := eS) (i := 1) Tryz.underlying36 hinf.1 hinf.2.1 hinf.2.2.1 hinf.2.2.2 rfl rfl rfl rfl rfl (Src.w (i := 0) rfl rfl) eS_len eS_one g69 rfl (fun v68 => ?_)
    refine wa rfl ?_
    refine wl_nil ?_
    refine wk_in_norm ?_
    have h71 := stp_next h70 ht52
    exact wk_then (wk_some (m53, x33 ++ ([iff0 (parOk (at' x33 ((x33.length : Int) - 1))) (parP (at' x33 ((x33.length : Int) - 1)))] : List Str), v68) ⟨h71, Nat.lt_succ_self _⟩ (Sub.c rfl (Sub.c rfl Sub.nil)) (sC (sS sN)))
  ·rintro ⟨⟨⟩, ⟨⟩⟩ h72
   cases h72

end Go.Proofs.YtpmiamphppcfeaaGreatDoor.Q

/-
 What functions compute, with checks: plain definitions, printed by a small program of ours (gq.py). No program in sight.
-/
namespace Go.Proofs.YtpmiamphppcfeaaGreatDoor
open Go
set_option linter.unusedVariables false
def rSameE (F : Nat) (a : TApiEvent) (b : TApiEvent) : Option (Bool) :=
 chk (imp (decide (a.fID = b.fID)) (imp (decide (a.fTenant = b.fTenant)) (imp (decide (a.fSource = b.fSource)) (imp (decide (a.fKey = b.fKey)) (imp (decide (a.fAt = b.fAt)) (imp (decide (a.fCause = b.fCause)) ((rSame F a.fBody b.fBody).isSome))))))) <| some ((decide (a.fID = b.fID)) && ((decide (a.fTenant = b.fTenant)) && ((decide (a.fSource = b.fSource)) && ((decide (a.fKey = b.fKey)) && ((decide (a.fAt = b.fAt)) && ((decide (a.fCause = b.fCause)) && (ov (rSame F a.fBody b.fBody))))))))

def rCmpE (a : TApiEvent) (b : TApiEvent) : Option (Int) :=
 cnd (((decide (a.fAt < b.fAt)) || ((decide (a.fAt = b.fAt)) && (sLess a.fID b.fID)))) (some (-1)) (cnd (((decide (a.fAt = b.fAt)) && (decide (a.fID = b.fID)))) (some 0) (some 1))

def evExample  : Option (TApiEvent) :=
 some (TApiEvent.mk ([101, 49] : Str) ([116] : Str) ([115] : Str) ([] : Str) 5 ([] : Str) ([(TApiCell.mk 1 0 ([] : Str) 0)] : List TApiCell))

def evBody_b1 (v : (List TApiCell)) (x23 : Int) : Option (Stp (Int) (Out (Bool) (Unit))) :=
 cnd (decide (x23 < (v.length : Int))) (chk (inR x23 (v.length : Int)) <| cnd (decide (250 < (((at' v x23).fStr).length : Int))) (some (.out (.ret false))) (chk (inK .i64 (x23 + 1)) <| some (.next (x23 + 1)))) (some (.out (.go ())))

def evBody_k1  : Option (Bool) :=
 some true

def evBody (F : Nat) (v : (List TApiCell)) : Option (Bool) :=
 cnd (decide (250 < (v.length : Int))) (some false) (obn (lop (fun σ => evBody_b1 v σ) F 0) (oute fun ν => evBody_k1 ))

def evSmall (F : Nat) (e : TApiEvent) : Option (Bool) :=
 cnd (((decide (100 < (e.fID.length : Int))) || ((decide (100 < (e.fTenant.length : Int))) || ((decide (100 < (e.fSource.length : Int))) || ((decide (100 < (e.fKey.length : Int))) || (decide (100 < (e.fCause.length : Int)))))))) (some false) (obn (evBody F e.fBody) fun r9 => some r9)

def evAwake (F : Nat)  : Option (Bool) :=
 obn (evExample) fun r1 => obn (eEncode F r1) fun r4 => obn (eDecode F r4.1) fun r7 => obn (evExample) fun r11 => obn (evExample) fun r14 => obn (eChild F r11 0 ([117] : Str) r14.fBody 6) fun r17 => obn (eLineage F ([97, 46, 48, 46, 49, 50] : Str)) fun r21 => obn (evExample) fun r24 => chk (decide (r4.2 = 0)) <| chk (decide (r7.2 = 0)) <| obn (evExample) fun r32 => obn (eSame F r7.1 r32) fun r35 => chk (r35) <| chk (decide (r17.2 = 0)) <| chk (decide (r17.1.fID = ([101, 49, 46, 48] : Str))) <| chk (decide (r17.1.fCause = ([101, 49] : Str))) <| chk (decide ((r21.length : Int) = 3)) <| chk (inR 2 (r21.length : Int)) <| chk (decide ((at' r21 2) = ([97] : Str))) <| obn (eCheck F (TApiEvent.mk r24.fID r24.fTenant r24.fSource r24.fKey (-1) r24.fCause r24.fBody)) fun r52 => chk (decide (r52 = 2)) <| obn (evExample) fun r57 => obn (eCmp (TApiEvent.mk r24.fID r24.fTenant r24.fSource r24.fKey (-1) r24.fCause r24.fBody) r57) fun r60 => some (decide (r60 = (-1)))

end Go.Proofs.YtpmiamphppcfeaaGreatDoor

/-
  Walks, printed by a small program of ours (gq.py).
-/
namespace Go.Proofs.YtpmiamphppcfeaaGreatDoor.Q
open Go Go.RowKit
set_option linter.unusedVariables false
set_option linter.unusedSimpArgs false
set_option maxRecDepth 100000
set_option maxHeartbeats 4000000
theorem o_build25_0_1_2_4_6 {n : Nat} {c : Cx} {l : Fr} {H : List Ent} {d : Option Nat} {ty : TypeId} {pos : String} {af : Array Edge} {g : Option (Nat × Bool)} {x0 : Operand} {r0 : Rp} (h0 : ev l x0 = some r0) (u0 : r0.one = true) {x1 : Operand} {r1 : Rp} (h1 : ev l x1 = some r1) (u1 : r1.one = true) {x2 : Operand} {r2 : Rp} (h2 : ev l x2 = some r2) (u2 : r2.one = true) {x4 : Operand} {r4 : Rp} (h4 : ev l x4 = some r4) (u4 : r4.one = true) {x6 : Operand} {r6 : Rp} (h6 : ev l x6 = some r6) (u6 : r6.one = true) : ORun Tryz.prog n c l H { dst := d, op := .build 25 #[(0, x0), (1, x1), (2, x2), (4, x4), (6, x6)], type := ty, pos := pos, after := af, guard := g } (rAgg [r0, r1, r2, rS ([] : Str), r4, rS ([] : Str), r6]) := fun a w Z ha _ => by
  have p0 := ha.ev h0
  have c0 := cells_one (r0.hone u0 Z _ p0)
  have p1 := ha.ev h1
  have c1 := cells_one (r1.hone u1 Z _ p1)
  have p2 := ha.ev h2
  have c2 := cells_one (r2.hone u2 Z _ p2)
  have p4 := ha.ev h4
  have c4 := cells_one (r4.hone u4 Z _ p4)
  have p6 := ha.ev h6
  have c6 := cells_one (r6.hone u6 Z _ p6)
  have hb : Tryz.prog.built 25 [(0, a.eval x0), (1, a.eval x1), (2, a.eval x2), (4, a.eval x4), (6, a.eval x6)] = some #[a.eval x0, a.eval x1, a.eval x2, (.string ⟨#[]⟩), a.eval x4, (.string ⟨#[]⟩), a.eval x6] := by
    rw [built25]
    generalize a.eval x0 = v0 at *
    generalize a.eval x1 = v1 at *
    generalize a.eval x2 = v2 at *
    generalize a.eval x4 = v4 at *
    generalize a.eval x6 = v6 at *
    simp [Instr.fill, c0, c1, c2, c4, c6]
  refine ⟨.agg #[a.eval x0, a.eval x1, a.eval x2, (.string ⟨#[]⟩), a.eval x4, (.string ⟨#[]⟩), a.eval x6], ⟨[a.eval x0, a.eval x1, a.eval x2, (.string ⟨#[]⟩), a.eval x4, (.string ⟨#[]⟩), a.eval x6], rfl, p0, p1, p2, rfl, p4, rfl, p6, trivial⟩, ?_⟩
  have := run_build w 25 #[(0, a.eval x0), (1, a.eval x1), (2, a.eval x2), (4, a.eval x4), (6, a.eval x6)] _ (by simpa using hb)
  simp [execOp, this]
theorem rSameE_w (F : Nat) (a : TApiEvent) (b : TApiEvent) (r : Bool) (h : rSameE F a b = some r) : Fn Tryz.prog GE 11 [rAgg (eTApiEvent a), rAgg (eTApiEvent b)] [] (fun R H => R = rB r ∧ H = []) := by
 refine enter (n := 52) Tryz.func11 rfl Tryz.ntmps11 rfl (fun w Z => ?_)
 refine wc_as (l' := [(0, rAgg (eTApiEvent a)), (1, rAgg (eTApiEvent b))]) (H' := []) rfl rfl ?_
 unfold rSameE at h
 refine wc_sr ?_
 refine w_box_agg rfl rfl (fun b1 => ?_)
 refine w_box_agg rfl rfl (fun b2 => ?_)
 refine wv (r := rB false) (o_assign rfl) ?_
 refine wl_x ?_
 obtain ⟨g3, h4⟩ := chk_e h
 refine wc_seq_mid [(4, rB ((decide (a.fID = b.fID)) && ((decide (a.fTenant = b.fTenant)) && ((decide (a.fSource = b.fSource)) && ((decide (a.fKey = b.fKey)) && ((decide (a.fAt = b.fAt)) && ((decide (a.fCause = b.fCause)) && (ov (rSame F a.fBody b.fBody)))))))))] [] ?_ ?_
 ·refine wc_region ?_
  refine wv (o_fieldAddr Tryz.underlying25 rfl Tryz.sizeOf9 rfl rfl) ?_
  refine wv (o_load (i := 1) Tryz.isAgg9 rfl rfl rfl) ?_
  refine wv (o_fieldAddr Tryz.underlying25 rfl Tryz.sizeOf9 rfl rfl) ?_
  refine wv (o_load (i := 0) Tryz.isAgg9 rfl rfl rfl) ?_
  refine wv (o_seq rfl rfl) ?_
  refine wm rfl ?_
  refine bsplit (decide (a.fID = b.fID)) (fun c5 => ?_) (fun c5 => ?_)
  ·refine wo c5 ?_
   refine wv (o_fieldAddr Tryz.underlying25 rfl Tryz.sizeOf9 rfl rfl) ?_
   refine wo c5 ?_
   refine wv (o_load (i := 1) Tryz.isAgg9 rfl rfl rfl) ?_
   refine wo c5 ?_
   refine wv (o_fieldAddr Tryz.underlying25 rfl Tryz.sizeOf9 rfl rfl) ?_
   refine wo c5 ?_
   refine wv (o_load (i := 0) Tryz.isAgg9 rfl rfl rfl) ?_
   refine wo c5 ?_
   refine wv (o_seq rfl rfl) ?_
   refine wpt rfl c5 rfl ?_
   refine wm rfl ?_
   refine bsplit (decide (a.fTenant = b.fTenant)) (fun c6 => ?_) (fun c6 => ?_)
   ·refine wo c6 ?_
    refine wv (o_fieldAddr Tryz.underlying25 rfl Tryz.sizeOf9 rfl rfl) ?_
    refine wo c6 ?_
    refine wv (o_load (i := 1) Tryz.isAgg9 rfl rfl rfl) ?_
    refine wo c6 ?_
    refine wv (o_fieldAddr Tryz.underlying25 rfl Tryz.sizeOf9 rfl rfl) ?_
    refine wo c6 ?_
    refine wv (o_load (i := 0) Tryz.isAgg9 rfl rfl rfl) ?_
    refine wo c6 ?_
    refine wv (o_seq rfl rfl) ?_
    refine wpt rfl c6 rfl ?_
    refine wm rfl ?_
    refine bsplit (decide (a.fSource = b.fSource)) (fun c7 => ?_) (fun c7 => ?_)
    ·refine wo c7 ?_
     refine wv (o_fieldAddr Tryz.underlying25 rfl Tryz.sizeOf9 rfl rfl) ?_
     refine wo c7 ?_
     refine wv (o_load (i := 1) Tryz.isAgg9 rfl rfl rfl) ?_
     refine wo c7 ?_
     refine wv (o_fieldAddr Tryz.underlying25 rfl Tryz.sizeOf9 rfl rfl) ?_
     refine wo c7 ?_
     refine wv (o_load (i := 0) Tryz.isAgg9 rfl rfl rfl) ?_
     refine wo c7 ?_
     refine wv (o_seq rfl rfl) ?_
     refine wpt rfl c7 rfl ?_
     refine wm rfl ?_
     refine bsplit (decide (a.fKey = b.fKey)) (fun c8 => ?_) (fun c8 => ?_)
     ·refine wo c8 ?_
      refine wv (o_fieldAddr Tryz.underlying25 rfl Tryz.sizeOf3 rfl rfl) ?_
      refine wo c8 ?_
      refine wv (o_load (i := 1) Tryz.isAgg3 rfl rfl rfl) ?_
      refine wo c8 ?_
      refine wv (o_fieldAddr Tryz.underlying25 rfl Tryz.sizeOf3 rfl rfl) ?_
      refine wo c8 ?_
      refine wv (o_load (i := 0) Tryz.isAgg3 rfl rfl rfl) ?_
      refine wo c8 ?_
      refine wv (o_eq rfl rfl) ?_
      refine wpt rfl c8 rfl ?_
      refine wm rfl ?_
      refine bsplit (decide (a.fAt = b.fAt)) (fun c9 => ?_) (fun c9 => ?_)
      ·refine wo c9 ?_
       refine wv (o_fieldAddr Tryz.underlying25 rfl Tryz.sizeOf9 rfl rfl) ?_
       refine wo c9 ?_
       refine wv (o_load (i := 1) Tryz.isAgg9 rfl rfl rfl) ?_
       refine wo c9 ?_
       refine wv (o_fieldAddr Tryz.underlying25 rfl Tryz.sizeOf9 rfl rfl) ?_
       refine wo c9 ?_
       refine wv (o_load (i := 0) Tryz.isAgg9 rfl rfl rfl) ?_
       refine wo c9 ?_
       refine wv (o_seq rfl rfl) ?_
       refine wpt rfl c9 rfl ?_
       refine wm rfl ?_
       refine bsplit (decide (a.fCause = b.fCause)) (fun c10 => ?_) (fun c10 => ?_)
       ·refine wo c10 ?_
        refine wv (o_fieldAddr Tryz.underlying25 rfl Tryz.sizeOf23 rfl rfl) ?_
        refine wo c10 ?_
        refine wv (o_load (i := 1) Tryz.isAgg23 rfl rfl rfl) ?_
        refine wo c10 ?_
        refine wv (o_fieldAddr Tryz.underlying25 rfl Tryz.sizeOf23 rfl rfl) ?_
        refine wo c10 ?_
        refine wv (o_load (i := 0) Tryz.isAgg23 rfl rfl rfl) ?_
        refine wo c10 ?_
        refine wc0 Tryz.call34 (rSame_w F a.fBody b.fBody (ov (rSame F a.fBody b.fBody)) (ov_e (imp_t (imp_t (imp_t (imp_t (imp_t (imp_t g3 c5) c6) c7) c8) c9) c10))) rfl ?_
        refine wpt rfl c10 rfl ?_
        refine wa rfl ?_
        refine wl_nil ?_
        exact wtc (And.intro c5 (And.intro c6 (And.intro c7 (And.intro c8 (And.intro c9 c10)))))
       ·refine wf c10 ?_
        refine wf c10 ?_
        refine wf c10 ?_
        refine wf c10 ?_
        refine wf c10 ?_
        refine wv (r := rB false) (o_pick_f (b := decide (a.fCause = b.fCause)) rfl c10 rfl) ?_
        refine wa rfl ?_
        refine wl_nil ?_
        exact wtc (And.intro c5 (And.intro c6 (And.intro c7 (And.intro c8 (And.intro c9 c10)))))
      ·refine wf c9 ?_
       refine wf c9 ?_
       refine wf c9 ?_
       refine wf c9 ?_
       refine wf c9 ?_
       refine wv (r := rB false) (o_pick_f (b := decide (a.fAt = b.fAt)) rfl c9 rfl) ?_
       refine wm rfl ?_
       refine wl_off (b := false) rfl rfl rfl rfl ?_
       refine wl_off (b := false) rfl rfl rfl rfl ?_
       refine wl_off (b := false) rfl rfl rfl rfl ?_
       refine wl_off (b := false) rfl rfl rfl rfl ?_
       refine wl_off (b := false) rfl rfl rfl rfl ?_
       refine wv (r := rB false) (o_pick_f (b := false) rfl rfl rfl) ?_
       refine wa rfl ?_
       refine wl_nil ?_
       exact wtc (And.intro c5 (And.intro c6 (And.intro c7 (And.intro c8 c9))))
     ·refine wf c8 ?_
      refine wf c8 ?_
      refine wf c8 ?_
      refine wf c8 ?_
      refine wf c8 ?_
      refine wv (r := rB false) (o_pick_f (b := decide (a.fKey = b.fKey)) rfl c8 rfl) ?_
      refine wm rfl ?_
      refine wl_off (b := false) rfl rfl rfl rfl ?_
      refine wl_off (b := false) rfl rfl rfl rfl ?_
      refine wl_off (b := false) rfl rfl rfl rfl ?_
      refine wl_off (b := false) rfl rfl rfl rfl ?_
      refine wl_off (b := false) rfl rfl rfl rfl ?_
      refine wv (r := rB false) (o_pick_f (b := false) rfl rfl rfl) ?_
      refine wm rfl ?_
      refine wl_off (b := false) rfl rfl rfl rfl ?_
      refine wl_off (b := false) rfl rfl rfl rfl ?_
      refine wl_off (b := false) rfl rfl rfl rfl ?_
      refine wl_off (b := false) rfl rfl rfl rfl ?_
      refine wl_off (b := false) rfl rfl rfl rfl ?_
      refine wv (r := rB false) (o_pick_f (b := false) rfl rfl rfl) ?_
      refine wa rfl ?_
      refine wl_nil ?_
      exact wtc (And.intro c5 (And.intro c6 (And.intro c7 c8)))
    ·refine wf c7 ?_
     refine wf c7 ?_
     refine wf c7 ?_
     refine wf c7 ?_
     refine wf c7 ?_
     refine wv (r := rB false) (o_pick_f (b := decide (a.fSource = b.fSource)) rfl c7 rfl) ?_
     refine wm rfl ?_
     refine wl_off (b := false) rfl rfl rfl rfl ?_
     refine wl_off (b := false) rfl rfl rfl rfl ?_
     refine wl_off (b := false) rfl rfl rfl rfl ?_
     refine wl_off (b := false) rfl rfl rfl rfl ?_
     refine wl_off (b := false) rfl rfl rfl rfl ?_
     refine wv (r := rB false) (o_pick_f (b := false) rfl rfl rfl) ?_
     refine wm rfl ?_
     refine wl_off (b := false) rfl rfl rfl rfl ?_
     refine wl_off (b := false) rfl rfl rfl rfl ?_
     refine wl_off (b := false) rfl rfl rfl rfl ?_
     refine wl_off (b := false) rfl rfl rfl rfl ?_
     refine wl_off (b := false) rfl rfl rfl rfl ?_
     refine wv (r := rB false) (o_pick_f (b := false) rfl rfl rfl) ?_
     refine wm rfl ?_
     refine wl_off (b := false) rfl rfl rfl rfl ?_
     refine wl_off (b := false) rfl rfl rfl rfl ?_
     refine wl_off (b := false) rfl rfl rfl rfl ?_
     refine wl_off (b := false) rfl rfl rfl rfl ?_
     refine wl_off (b := false) rfl rfl rfl rfl ?_
     refine wv (r := rB false) (o_pick_f (b := false) rfl rfl rfl) ?_
     refine wa rfl ?_
     refine wl_nil ?_
     exact wtc (And.intro c5 (And.intro c6 c7))
   ·refine wf c6 ?_
    refine wf c6 ?_
    refine wf c6 ?_
    refine wf c6 ?_
    refine wf c6 ?_
    refine wv (r := rB false) (o_pick_f (b := decide (a.fTenant = b.fTenant)) rfl c6 rfl) ?_
    refine wm rfl ?_
    refine wl_off (b := false) rfl rfl rfl rfl ?_
    refine wl_off (b := false) rfl rfl rfl rfl ?_
    refine wl_off (b := false) rfl rfl rfl rfl ?_
    refine wl_off (b := false) rfl rfl rfl rfl ?_
    refine wl_off (b := false) rfl rfl rfl rfl ?_
    refine wv (r := rB false) (o_pick_f (b := false) rfl rfl rfl) ?_
    refine wm rfl ?_
    refine wl_off (b := false) rfl rfl rfl rfl ?_
    refine wl_off (b := false) rfl rfl rfl rfl ?_
    refine wl_off (b := false) rfl rfl rfl rfl ?_
    refine wl_off (b := false) rfl rfl rfl rfl ?_
    refine wl_off (b := false) rfl rfl rfl rfl ?_
    refine wv (r := rB false) (o_pick_f (b := false) rfl rfl rfl) ?_
    refine wm rfl ?_
    refine wl_off (b := false) rfl rfl rfl rfl ?_
    refine wl_off (b := false) rfl rfl rfl rfl ?_
    refine wl_off (b := false) rfl rfl rfl rfl ?_
    refine wl_off (b := false) rfl rfl rfl rfl ?_
    refine wl_off (b := false) rfl rfl rfl rfl ?_
    refine wv (r := rB false) (o_pick_f (b := false) rfl rfl rfl) ?_
    refine wm rfl ?_
    refine wl_off (b := false) rfl rfl rfl rfl ?_
    refine wl_off (b := false) rfl rfl rfl rfl ?_
    refine wl_off (b := false) rfl rfl rfl rfl ?_
    refine wl_off (b := false) rfl rfl rfl rfl ?_
    refine wl_off (b := false) rfl rfl rfl rfl ?_
    refine wv (r := rB false) (o_pick_f (b := false) rfl rfl rfl) ?_
    refine wa rfl ?_
    refine wl_nil ?_
    exact wtc (And.intro c5 c6)
  ·refine wf c5 ?_
   refine wf c5 ?_
   refine wf c5 ?_
   refine wf c5 ?_
   refine wf c5 ?_
   refine wv (r := rB false) (o_pick_f (b := decide (a.fID = b.fID)) rfl c5 rfl) ?_
   refine wm rfl ?_
   refine wl_off (b := false) rfl rfl rfl rfl ?_
   refine wl_off (b := false) rfl rfl rfl rfl ?_
   refine wl_off (b := false) rfl rfl rfl rfl ?_
   refine wl_off (b := false) rfl rfl rfl rfl ?_
   refine wl_off (b := false) rfl rfl rfl rfl ?_
   refine wv (r := rB false) (o_pick_f (b := false) rfl rfl rfl) ?_
   refine wm rfl ?_
   refine wl_off (b := false) rfl rfl rfl rfl ?_
   refine wl_off (b := false) rfl rfl rfl rfl ?_
   refine wl_off (b := false) rfl rfl rfl rfl ?_
   refine wl_off (b := false) rfl rfl rfl rfl ?_
   refine wl_off (b := false) rfl rfl rfl rfl ?_
   refine wv (r := rB false) (o_pick_f (b := false) rfl rfl rfl) ?_
   refine wm rfl ?_
   refine wl_off (b := false) rfl rfl rfl rfl ?_
   refine wl_off (b := false) rfl rfl rfl rfl ?_
   refine wl_off (b := false) rfl rfl rfl rfl ?_
   refine wl_off (b := false) rfl rfl rfl rfl ?_
   refine wl_off (b := false) rfl rfl rfl rfl ?_
   refine wv (r := rB false) (o_pick_f (b := false) rfl rfl rfl) ?_
   refine wm rfl ?_
   refine wl_off (b := false) rfl rfl rfl rfl ?_
   refine wl_off (b := false) rfl rfl rfl rfl ?_
   refine wl_off (b := false) rfl rfl rfl rfl ?_
   refine wl_off (b := false) rfl rfl rfl rfl ?_
   refine wl_off (b := false) rfl rfl rfl rfl ?_
   refine wv (r := rB false) (o_pick_f (b := false) rfl rfl rfl) ?_
   refine wm rfl ?_
   refine wl_off (b := false) rfl rfl rfl rfl ?_
   refine wl_off (b := false) rfl rfl rfl rfl ?_
   refine wl_off (b := false) rfl rfl rfl rfl ?_
   refine wl_off (b := false) rfl rfl rfl rfl ?_
   refine wl_off (b := false) rfl rfl rfl rfl ?_
   refine wv (r := rB false) (o_pick_f (b := false) rfl rfl rfl) ?_
   refine wa rfl ?_
   refine wl_nil ?_
   exact wtc c5
 refine wc_ret ?_
 obtain rfl := some_e h4
 exact wk_ret (r_1 Tryz.results11 (rv_t rfl)) sN ⟨rfl, rfl⟩

theorem rCmpE_w (a : TApiEvent) (b : TApiEvent) (r : Int) (h : rCmpE a b = some r) : Fn Tryz.prog GE 15 [rAgg (eTApiEvent a), rAgg (eTApiEvent b)] [] (fun R H => R = rI .i64 r ∧ H = []) := by
 refine enter (n := 36) Tryz.func15 rfl Tryz.ntmps15 rfl (fun w Z => ?_)
 refine wc_as (l' := [(0, rAgg (eTApiEvent a)), (1, rAgg (eTApiEvent b))]) (H' := []) rfl rfl ?_
 unfold rCmpE at h
 refine wc_sr ?_
 refine w_box_agg rfl rfl (fun b1 => ?_)
 refine w_box_agg rfl rfl (fun b2 => ?_)
 refine wv (r := rI .i64 0) (o_assign rfl) ?_
 refine wl_x ?_
 refine wc_seq ?_
 refine wc_seq_mid [(2, rv (.pointer (some ⟨b1, 0, none⟩))), (3, rv (.pointer (some ⟨b2, 0, none⟩))), (23, rB ((decide (a.fAt < b.fAt)) || ((decide (a.fAt = b.fAt)) && (sLess a.fID b.fID))))] [.blk b2 (eTApiEvent b) 25, .blk b1 (eTApiEvent a) 25] ?_ ?_
 ·refine wc_region ?_
  refine wv (o_fieldAddr Tryz.underlying25 rfl Tryz.sizeOf3 rfl rfl) ?_
  refine wv (o_load (i := 1) Tryz.isAgg3 rfl rfl rfl) ?_
  refine wv (o_fieldAddr Tryz.underlying25 rfl Tryz.sizeOf3 rfl rfl) ?_
  refine wv (o_load (i := 0) Tryz.isAgg3 rfl rfl rfl) ?_
  refine wv (o_lt rfl rfl) ?_
  refine wm rfl ?_
  refine bsplit (decide (a.fAt < b.fAt)) (fun c3 => ?_) (fun c3 => ?_)
  ·refine wf c3 ?_
   refine wf c3 ?_
   refine wf c3 ?_
   refine wf c3 ?_
   refine wf c3 ?_
   refine wf c3 ?_
   refine wu ?_
   refine wu ?_
   refine wu ?_
   refine wu ?_
   refine wu ?_
   refine wf c3 ?_
   refine wv (r := rB true) (o_pick_t (b := decide (a.fAt < b.fAt)) rfl c3 rfl) ?_
   refine wl_nil ?_
   exact wtc c3
  ·refine wo c3 ?_
   refine wv (o_fieldAddr Tryz.underlying25 rfl Tryz.sizeOf3 rfl rfl) ?_
   refine wo c3 ?_
   refine wv (o_load (i := 1) Tryz.isAgg3 rfl rfl rfl) ?_
   refine wo c3 ?_
   refine wv (o_fieldAddr Tryz.underlying25 rfl Tryz.sizeOf3 rfl rfl) ?_
   refine wo c3 ?_
   refine wv (o_load (i := 0) Tryz.isAgg3 rfl rfl rfl) ?_
   refine wo c3 ?_
   refine wv (o_eq rfl rfl) ?_
   refine wo c3 ?_
   refine wm rfl ?_
   refine bsplit (decide (a.fAt = b.fAt)) (fun c4 => ?_) (fun c4 => ?_)
   ·refine wo c4 ?_
    refine wv (o_fieldAddr Tryz.underlying25 rfl Tryz.sizeOf9 rfl rfl) ?_
    refine wo c4 ?_
    refine wv (o_load (i := 1) Tryz.isAgg9 rfl rfl rfl) ?_
    refine wo c4 ?_
    refine wv (o_fieldAddr Tryz.underlying25 rfl Tryz.sizeOf9 rfl rfl) ?_
    refine wo c4 ?_
    refine wv (o_load (i := 0) Tryz.isAgg9 rfl rfl rfl) ?_
    refine wo c4 ?_
    refine wv (o_slt rfl rfl) ?_
    refine wo c3 ?_
    refine wpt rfl c4 rfl ?_
    refine wpf rfl c3 rfl ?_
    refine wl_nil ?_
    exact wtc (And.intro c3 c4)
   ·refine wf c4 ?_
    refine wf c4 ?_
    refine wf c4 ?_
    refine wf c4 ?_
    refine wf c4 ?_
    refine wo c3 ?_
    refine wv (r := rB false) (o_pick_f (b := decide (a.fAt = b.fAt)) rfl c4 rfl) ?_
    refine wpf rfl c3 rfl ?_
    refine wl_nil ?_
    exact wtc (And.intro c3 c4)
 refine wc_cond (b := ((decide (a.fAt < b.fAt)) || ((decide (a.fAt = b.fAt)) && (sLess a.fID b.fID)))) rfl (fun c5 => ?_) (fun c5 => ?_)
 ·have h6 := cnd_t c5 h
  refine wc_sr ?_
  refine wv (r := rI .i64 (-1)) (o_assign rfl) ?_
  refine wl_x ?_
  refine wc_ret ?_
  refine wk_then_ret ?_
  obtain rfl := some_e h6
  exact wk_ret (r_1 Tryz.results15 (rv_t rfl)) (sS (sS sN)) ⟨rfl, rfl⟩
 ·have h7 := cnd_f c5 h
  refine wc_skip ?_
  refine wk_x ?_
  refine wc_seq ?_
  refine wc_seq_mid [(35, rB ((decide (a.fAt = b.fAt)) && (decide (a.fID = b.fID))))] [] ?_ ?_
  ·refine wc_region ?_
   refine wv (o_fieldAddr Tryz.underlying25 rfl Tryz.sizeOf3 rfl rfl) ?_
   refine wv (o_load (i := 1) Tryz.isAgg3 rfl rfl rfl) ?_
   refine wv (o_fieldAddr Tryz.underlying25 rfl Tryz.sizeOf3 rfl rfl) ?_
   refine wv (o_load (i := 0) Tryz.isAgg3 rfl rfl rfl) ?_
   refine wv (o_eq rfl rfl) ?_
   refine wm rfl ?_
   refine bsplit (decide (a.fAt = b.fAt)) (fun c8 => ?_) (fun c8 => ?_)
   ·refine wo c8 ?_
    refine wv (o_fieldAddr Tryz.underlying25 rfl Tryz.sizeOf9 rfl rfl) ?_
    refine wo c8 ?_
    refine wv (o_load (i := 1) Tryz.isAgg9 rfl rfl rfl) ?_
    refine wo c8 ?_
    refine wv (o_fieldAddr Tryz.underlying25 rfl Tryz.sizeOf9 rfl rfl) ?_
    refine wo c8 ?_
    refine wv (o_load (i := 0) Tryz.isAgg9 rfl rfl rfl) ?_
    refine wo c8 ?_
    refine wv (o_seq rfl rfl) ?_
    refine wpt rfl c8 rfl ?_
    refine wl_nil ?_
    exact wtc c8
   ·refine wf c8 ?_
    refine wf c8 ?_
    refine wf c8 ?_
    refine wf c8 ?_
    refine wf c8 ?_
    refine wv (r := rB false) (o_pick_f (b := decide (a.fAt = b.fAt)) rfl c8 rfl) ?_
    refine wl_nil ?_
    exact wtc c8
  refine wc_cond (b := ((decide (a.fAt = b.fAt)) && (decide (a.fID = b.fID)))) rfl (fun c9 => ?_) (fun c9 => ?_)
  ·have h10 := cnd_t c9 h7
   refine wc_sr ?_
   refine wv (r := rI .i64 0) (o_assign rfl) ?_
   refine wl_x ?_
   refine wc_ret ?_
   refine wk_then_ret ?_
   obtain rfl := some_e h10
   exact wk_ret (r_1 Tryz.results15 (rv_t rfl)) sN ⟨rfl, rfl⟩
  ·have h11 := cnd_f c9 h7
   refine wc_skip ?_
   refine wk_x ?_
   refine wc_sr ?_
   refine wv (r := rI .i64 1) (o_assign rfl) ?_
   refine wl_x ?_
   refine wc_ret ?_
   obtain rfl := some_e h11
   exact wk_ret (r_1 Tryz.results15 (rv_t rfl)) sN ⟨rfl, rfl⟩

theorem evExample_w  (r : TApiEvent) (h : evExample = some r) : Fn Tryz.prog GE 27 [] [] (fun R H => R = rAgg (eTApiEvent r) ∧ H = []) := by
 refine enter (n := 4) Tryz.func27 rfl Tryz.ntmps27 rfl (fun w Z => ?_)
 refine wc_as (l' := []) (H' := []) rfl rfl ?_
 unfold evExample at h
 refine wc_sr ?_
 refine w_alloc (cs := [rS ([] : Str), rS ([] : Str), rS ([] : Str), rS ([] : Str), rI .i64 0, rS ([] : Str), rv (.slice none 0 0)]) Tryz.zeroValue25 rfl rfl (fun b1 => ?_)
 refine wl_y ?_
 refine wv (r := rAgg [rI .i64 1, rI .i64 0, rS ([] : Str), rI .i64 0]) (o_build51_0 rfl rfl) ?_
 refine w_buildSlice (ys := ([(TApiCell.mk 1 0 ([] : Str) 0)] : List TApiCell)) (enc := eTApiCell) (css := [[rI .i64 1, rI .i64 0, rS ([] : Str), rI .i64 0]]) (xs := [.tmp 1]) Tryz.underlying23 Tryz.sizeOf51 Tryz.zeroValue51 rfl rfl rfl ⟨Cel.agg ⟨Up.refl _, Up.refl _, Up.refl _, Up.refl _, trivial⟩, trivial⟩ rfl eTApiCell_len rfl rfl rfl (fun b2 => ?_)
 refine wv (r := rAgg [rS ([101, 49] : Str), rS ([116] : Str), rS ([115] : Str), rS ([] : Str), rI .i64 5, rS ([] : Str), rv (.slice (some ⟨b2, 0, none⟩) 1 1)]) (o_build25_0_1_2_4_6 rfl rfl rfl rfl rfl rfl rfl rfl rfl rfl) ?_
 refine u_store_agg (i := 1) Tryz.sizeOf25 rfl rfl rfl ⟨(one_c rfl), (one_c rfl), (one_c rfl), (one_c rfl), (one_c rfl), (one_c rfl), (one_row (i := 0) rfl), trivial⟩ rfl rfl (cs' := [rS ([101, 49] : Str), rS ([116] : Str), rS ([115] : Str), rS ([] : Str), rI .i64 5, rS ([] : Str), rv (.slice (some ⟨b2, 0, none⟩) 1 1)]) rfl (H' := [.row (.slice (some ⟨b2, 0, none⟩) 1 1) 51 4 (List.map eTApiCell ([(TApiCell.mk 1 0 ([] : Str) 0)] : List TApiCell)), .blk b1 [rS ([101, 49] : Str), rS ([116] : Str), rS ([115] : Str), rS ([] : Str), rI .i64 5, rS ([] : Str), rv (.slice (some ⟨b2, 0, none⟩) 1 1)] 25]) rfl ?_
 refine wl_x ?_
 refine wc_ret ?_
 refine WK.freeze (i := 0) rfl ?_
 refine WK.upBlk (i := 1) (cs' := [rS ([101, 49] : Str), rS ([116] : Str), rS ([115] : Str), rS ([] : Str), rI .i64 5, rS ([] : Str), rSl 4 (List.map eTApiCell ([(TApiCell.mk 1 0 ([] : Str) 0)] : List TApiCell))]) rfl ⟨Up.refl _, Up.refl _, Up.refl _, Up.refl _, Up.refl _, Up.refl _, Up.fact (i := 0) rfl, trivial⟩ ?_
 obtain rfl := some_e h
 exact wk_ret (r_1 Tryz.results27 (rv_ca (i := 1) Tryz.isAgg25 Tryz.sizeOf25 rfl rfl rfl)) (sS (sS sN)) ⟨rfl, rfl⟩

theorem evBody_w (F : Nat) (v : (List TApiCell)) (r : Bool) (h : evBody F v = some r) : Fn Tryz.prog GE 16 [rSl 4 (List.map eTApiCell v)] [] (fun R H => R = rB r ∧ H = []) := by
 refine enter (n := 20) Tryz.func16 rfl Tryz.ntmps16 rfl (fun w Z => ?_)
 refine wc_as (l' := [(0, rSl 4 (List.map eTApiCell v))]) (H' := []) rfl rfl ?_
 unfold evBody at h
 refine wc_sr ?_
 refine wv (r := rB false) (o_assign rfl) ?_
 refine wl_x ?_
 refine wc_seq ?_
 refine wc_sr ?_
 refine wm rfl ?_
 refine wv (o_len_zt (ys := v) (enc := eTApiCell) Tryz.underlying23 rfl) ?_
 refine wv (o_gt rfl rfl) ?_
 refine wl_x ?_
 refine wc_cond (b := decide (250 < (v.length : Int))) rfl (fun c1 => ?_) (fun c1 => ?_)
 ·have h2 := cnd_t c1 h
  refine wc_sr ?_
  refine wv (r := rB false) (o_assign rfl) ?_
  refine wl_x ?_
  refine wc_ret ?_
  refine wk_then_ret ?_
  obtain rfl := some_e h2
  exact wk_ret (r_1 Tryz.results16 (rv_t rfl)) sN ⟨rfl, rfl⟩
 ·have h3 := cnd_f c1 h
  refine wc_skip ?_
  refine wk_x ?_
  refine wc_seq ?_
  refine wc_sr ?_
  refine wm rfl ?_
  refine wv (o_len_zt (ys := v) (enc := eTApiCell) Tryz.underlying23 rfl) ?_
  refine wv (r := rI .i64 0) (o_move rfl) ?_
  refine wl_x ?_
  refine wc_block ?_
  obtain ⟨o34, eo35, hK36⟩ := obn_e h3
  refine wc_loop2 (S := Nat × (Int) × (Unit)) (V := (Unit) × (Unit)) 0 (fun σ => lop (fun σ => evBody_b1 v σ) σ.1 σ.2.1 = some o34) (fun σ => [(0, rSl 4 (List.map eTApiCell v)), (2, rB false), (8, rI .i64 (v.length : Int)), (9, rI .i64 σ.2.1)]) (fun σ => []) (fun σ => σ.1) (F, 0, ()) eo35 (Sub.c rfl (Sub.c rfl (Sub.c rfl (Sub.c rfl Sub.nil)))) sN (fun σ => evBody_k1  = some r) (fun σ => [(2, rB false)]) (fun σ => []) ?_ ?_
  ·rintro ⟨n42, x23, ⟨⟩⟩ hi40
   refine wc_as (l' := [(0, rSl 4 (List.map eTApiCell v)), (2, rB false), (8, rI .i64 (v.length : Int)), (9, rI .i64 x23)]) (H' := []) rfl rfl ?_
   obtain ⟨m39, rfl, t37, h41, ht38⟩ := lop_e hi40
   replace h41 : evBody_b1 v x23 = some t37 := h41
   unfold evBody_b1 at h41
   refine wc_sr ?_
   refine wv (o_lt rfl rfl) ?_
   refine wl_x ?_
   refine wc_seq ?_
   refine wc_cond (b := decide (x23 < (v.length : Int))) rfl (fun c43 => ?_) (fun c43 => ?_)
   ·have h44 := cnd_t c43 h41
    refine wc_skip ?_
    refine wk_x ?_
    refine wc_seq ?_
    refine wc_block ?_
    refine wc_sr ?_
    refine wm rfl ?_
    refine wa rfl ?_
    refine wl_y ?_
    refine wm rfl ?_
    refine wm rfl ?_
    obtain ⟨g45, h46⟩ := chk_e h44
    refine wv (o_ix_z (enc := eTApiCell) (ys := v) Tryz.underlying23 Tryz.sizeOf51 rfl rfl g45) ?_
    refine wv (o_fieldAddr_z Tryz.underlying51 rfl Tryz.sizeOf9 rfl rfl) ?_
    refine wv (o_load_z Tryz.isAgg9 rfl rfl) ?_
    refine wv (o_len_s Tryz.underlying9 rfl) ?_
    refine wv (o_gt rfl rfl) ?_
    refine wl_x ?_
    refine wc_cond (b := decide (250 < (((at' v x23).fStr).length : Int))) rfl (fun c47 => ?_) (fun c47 => ?_)
    ·have h48 := cnd_t c47 h46
     refine wc_sr ?_
     refine wv (r := rB false) (o_assign rfl) ?_
     refine wl_x ?_
     refine wc_ret ?_
     refine wk_in_ret ?_
     refine wk_then_ret ?_
     refine wk_then_ret ?_
     refine wk_cut_ret ?_
     have h49 := stp_ret h48 ht38 hK36
     refine wk_in_ret ?_
     refine wk_then_ret ?_
     obtain rfl := some_e h49
     exact wk_ret (r_1 Tryz.results16 (rv_t rfl)) sN ⟨rfl, rfl⟩
    ·have h50 := cnd_f c47 h46
     refine wc_skip ?_
     refine wk_in_norm ?_
     refine wk_x ?_
     refine wc_region ?_
     obtain ⟨g51, h52⟩ := chk_e h50
     refine wv (o_add rfl rfl g51) ?_
     refine wm rfl ?_
     refine wl_nil ?_
     have h53 := stp_next h52 ht38
     exact wk_then (wk_some (m39, x23 + 1, ()) ⟨h53, Nat.lt_succ_self _⟩ (Sub.c rfl (Sub.c rfl (Sub.c rfl (Sub.c rfl Sub.nil)))) sN)
   ·have h54 := cnd_f c43 h41
    refine wc_exit ?_
    refine wk_then_exit ?_
    have h55 := stp_go h54 ht38 hK36
    exact wk_then_exit (wk_cut_hit (wk_some ((), ()) h55 (Sub.c rfl Sub.nil) sN))
  ·rintro ⟨⟨⟩, ⟨⟩⟩ h56
   refine wk_as (l' := [(2, rB false)]) (H' := []) rfl rfl ?_
   replace h56 : evBody_k1  = some r := h56
   unfold evBody_k1 at h56
   refine wk_in_hit ?_
   refine wk_x ?_
   refine wc_sr ?_
   refine wv (r := rB true) (o_assign rfl) ?_
   refine wl_x ?_
   refine wc_ret ?_
   obtain rfl := some_e h56
   exact wk_ret (r_1 Tryz.results16 (rv_t rfl)) sN ⟨rfl, rfl⟩

theorem evSmall_w (F : Nat) (e : TApiEvent) (r : Bool) (h : evSmall F e = some r) : Fn Tryz.prog GE 12 [rAgg (eTApiEvent e)] [] (fun R H => R = rB r ∧ H = []) := by
 refine enter (n := 34) Tryz.func12 rfl Tryz.ntmps12 rfl (fun w Z => ?_)
 refine wc_as (l' := [(0, rAgg (eTApiEvent e))]) (H' := []) rfl rfl ?_
 unfold evSmall at h
 refine wc_sr ?_
 refine w_box_agg rfl rfl (fun b1 => ?_)
 refine wv (r := rB false) (o_assign rfl) ?_
 refine wl_x ?_
 refine wc_seq ?_
 refine wc_seq_mid [(1, rv (.pointer (some ⟨b1, 0, none⟩))), (30, rB ((decide (100 < (e.fID.length : Int))) || ((decide (100 < (e.fTenant.length : Int))) || ((decide (100 < (e.fSource.length : Int))) || ((decide (100 < (e.fKey.length : Int))) || (decide (100 < (e.fCause.length : Int))))))))] [.blk b1 (eTApiEvent e) 25] ?_ ?_
 ·refine wc_region ?_
  refine wv (o_fieldAddr Tryz.underlying25 rfl Tryz.sizeOf9 rfl rfl) ?_
  refine wv (o_load (i := 0) Tryz.isAgg9 rfl rfl rfl) ?_
  refine wv (o_len_s Tryz.underlying9 rfl) ?_
  refine wv (o_gt rfl rfl) ?_
  refine wm rfl ?_
  refine bsplit (decide (100 < (e.fID.length : Int))) (fun c2 => ?_) (fun c2 => ?_)
  ·refine wf c2 ?_
   refine wf c2 ?_
   refine wf c2 ?_
   refine wf c2 ?_
   refine wv (r := rB true) (o_pick_t (b := decide (100 < (e.fID.length : Int))) rfl c2 rfl) ?_
   refine wm rfl ?_
   refine wl_off (b := true) rfl rfl rfl rfl ?_
   refine wl_off (b := true) rfl rfl rfl rfl ?_
   refine wl_off (b := true) rfl rfl rfl rfl ?_
   refine wl_off (b := true) rfl rfl rfl rfl ?_
   refine wv (r := rB true) (o_pick_t (b := true) rfl rfl rfl) ?_
   refine wm rfl ?_
   refine wl_off (b := true) rfl rfl rfl rfl ?_
   refine wl_off (b := true) rfl rfl rfl rfl ?_
   refine wl_off (b := true) rfl rfl rfl rfl ?_
   refine wl_off (b := true) rfl rfl rfl rfl ?_
   refine wv (r := rB true) (o_pick_t (b := true) rfl rfl rfl) ?_
   refine wm rfl ?_
   refine wl_off (b := true) rfl rfl rfl rfl ?_
   refine wl_off (b := true) rfl rfl rfl rfl ?_
   refine wl_off (b := true) rfl rfl rfl rfl ?_
   refine wl_off (b := true) rfl rfl rfl rfl ?_
   refine wv (r := rB true) (o_pick_t (b := true) rfl rfl rfl) ?_
   refine wl_nil ?_
   exact wtc c2
  ·refine wo c2 ?_
   refine wv (o_fieldAddr Tryz.underlying25 rfl Tryz.sizeOf9 rfl rfl) ?_
   refine wo c2 ?_
   refine wv (o_load (i := 0) Tryz.isAgg9 rfl rfl rfl) ?_
   refine wo c2 ?_
   refine wv (o_len_s Tryz.underlying9 rfl) ?_
   refine wo c2 ?_
   refine wv (o_gt rfl rfl) ?_
   refine wpf rfl c2 rfl ?_
   refine wm rfl ?_
   refine bsplit (decide (100 < (e.fTenant.length : Int))) (fun c3 => ?_) (fun c3 => ?_)
   ·refine wf c3 ?_
    refine wf c3 ?_
    refine wf c3 ?_
    refine wf c3 ?_
    refine wv (r := rB true) (o_pick_t (b := decide (100 < (e.fTenant.length : Int))) rfl c3 rfl) ?_
    refine wm rfl ?_
    refine wl_off (b := true) rfl rfl rfl rfl ?_
    refine wl_off (b := true) rfl rfl rfl rfl ?_
    refine wl_off (b := true) rfl rfl rfl rfl ?_
    refine wl_off (b := true) rfl rfl rfl rfl ?_
    refine wv (r := rB true) (o_pick_t (b := true) rfl rfl rfl) ?_
    refine wm rfl ?_
    refine wl_off (b := true) rfl rfl rfl rfl ?_
    refine wl_off (b := true) rfl rfl rfl rfl ?_
    refine wl_off (b := true) rfl rfl rfl rfl ?_
    refine wl_off (b := true) rfl rfl rfl rfl ?_
    refine wv (r := rB true) (o_pick_t (b := true) rfl rfl rfl) ?_
    refine wl_nil ?_
    exact wtc (And.intro c2 c3)
   ·refine wo c3 ?_
    refine wv (o_fieldAddr Tryz.underlying25 rfl Tryz.sizeOf9 rfl rfl) ?_
    refine wo c3 ?_
    refine wv (o_load (i := 0) Tryz.isAgg9 rfl rfl rfl) ?_
    refine wo c3 ?_
    refine wv (o_len_s Tryz.underlying9 rfl) ?_
    refine wo c3 ?_
    refine wv (o_gt rfl rfl) ?_
    refine wpf rfl c3 rfl ?_
    refine wm rfl ?_
    refine bsplit (decide (100 < (e.fSource.length : Int))) (fun c4 => ?_) (fun c4 => ?_)
    ·refine wf c4 ?_
     refine wf c4 ?_
     refine wf c4 ?_
     refine wf c4 ?_
     refine wv (r := rB true) (o_pick_t (b := decide (100 < (e.fSource.length : Int))) rfl c4 rfl) ?_
     refine wm rfl ?_
     refine wl_off (b := true) rfl rfl rfl rfl ?_
     refine wl_off (b := true) rfl rfl rfl rfl ?_
     refine wl_off (b := true) rfl rfl rfl rfl ?_
     refine wl_off (b := true) rfl rfl rfl rfl ?_
     refine wv (r := rB true) (o_pick_t (b := true) rfl rfl rfl) ?_
     refine wl_nil ?_
     exact wtc (And.intro c2 (And.intro c3 c4))
    ·refine wo c4 ?_
     refine wv (o_fieldAddr Tryz.underlying25 rfl Tryz.sizeOf9 rfl rfl) ?_
     refine wo c4 ?_
     refine wv (o_load (i := 0) Tryz.isAgg9 rfl rfl rfl) ?_
     refine wo c4 ?_
     refine wv (o_len_s Tryz.underlying9 rfl) ?_
     refine wo c4 ?_
     refine wv (o_gt rfl rfl) ?_
     refine wpf rfl c4 rfl ?_
     refine wm rfl ?_
     refine bsplit (decide (100 < (e.fKey.length : Int))) (fun c5 => ?_) (fun c5 => ?_)
     ·refine wf c5 ?_
      refine wf c5 ?_
      refine wf c5 ?_
      refine wf c5 ?_
      refine wv (r := rB true) (o_pick_t (b := decide (100 < (e.fKey.length : Int))) rfl c5 rfl) ?_
      refine wl_nil ?_
      exact wtc (And.intro c2 (And.intro c3 (And.intro c4 c5)))
     ·refine wo c5 ?_
      refine wv (o_fieldAddr Tryz.underlying25 rfl Tryz.sizeOf9 rfl rfl) ?_
      refine wo c5 ?_
      refine wv (o_load (i := 0) Tryz.isAgg9 rfl rfl rfl) ?_
      refine wo c5 ?_
      refine wv (o_len_s Tryz.underlying9 rfl) ?_
      refine wo c5 ?_
      refine wv (o_gt rfl rfl) ?_
      refine wpf rfl c5 rfl ?_
      refine wl_nil ?_
      exact wtc (And.intro c2 (And.intro c3 (And.intro c4 c5)))
 refine wc_cond (b := ((decide (100 < (e.fID.length : Int))) || ((decide (100 < (e.fTenant.length : Int))) || ((decide (100 < (e.fSource.length : Int))) || ((decide (100 < (e.fKey.length : Int))) || (decide (100 < (e.fCause.length : Int)))))))) rfl (fun c6 => ?_) (fun c6 => ?_)
 ·have h7 := cnd_t c6 h
  refine wc_sr ?_
  refine wv (r := rB false) (o_assign rfl) ?_
  refine wl_x ?_
  refine wc_ret ?_
  refine wk_then_ret ?_
  obtain rfl := some_e h7
  exact wk_ret (r_1 Tryz.results12 (rv_t rfl)) (sS sN) ⟨rfl, rfl⟩
 ·have h8 := cnd_f c6 h
  refine wc_skip ?_
  refine wk_x ?_
  refine wc_sr ?_
  refine wv (o_fieldAddr Tryz.underlying25 rfl Tryz.sizeOf23 rfl rfl) ?_
  refine wv (o_load (i := 0) Tryz.isAgg23 rfl rfl rfl) ?_
  obtain ⟨r9, e11, h10⟩ := obn_e h8
  refine wc0 Tryz.call16 (evBody_w F e.fBody r9 e11) rfl ?_
  refine wa rfl ?_
  refine wl_x ?_
  refine wc_ret ?_
  obtain rfl := some_e h10
  exact wk_ret (r_1 Tryz.results12 (rv_t rfl)) (sS sN) ⟨rfl, rfl⟩

theorem evAwake_w (F : Nat)  (r : Bool) (h : evAwake F = some r) : Fn Tryz.prog GE 8 [] [] (fun R H => R = rB r ∧ H = []) := by
 refine enter (n := 76) Tryz.func8 rfl Tryz.ntmps8 rfl (fun w Z => ?_)
 refine wc_as (l' := []) (H' := []) rfl rfl ?_
 unfold evAwake at h
 refine wc_sr ?_
 refine wv (r := rB false) (o_assign rfl) ?_
 refine wl_y ?_
 obtain ⟨r1, e3, h2⟩ := obn_e h
 refine wc0 Tryz.call27 (evExample_w r1 e3) rfl ?_
 obtain ⟨r4, e6, h5⟩ := obn_e h2
 refine wc0 Tryz.call21 (eEncode_w F r1 r4 e6) rfl ?_
 refine wm rfl ?_
 refine wv (o_extract rfl rfl) ?_
 refine wv (o_extract rfl rfl) ?_
 refine wa rfl ?_
 refine wa rfl ?_
 refine wl_y ?_
 refine wm rfl ?_
 obtain ⟨r7, e9, h8⟩ := obn_e h5
 refine wc0 Tryz.call9 (eDecode_w F r4.1 r7 e9) rfl ?_
 refine wm rfl ?_
 refine wv (o_extract rfl rfl) ?_
 refine wv (o_extract rfl rfl) ?_
 refine w_alloc (cs := [rS ([] : Str), rS ([] : Str), rS ([] : Str), rS ([] : Str), rI .i64 0, rS ([] : Str), rv (.slice none 0 0)]) Tryz.zeroValue25 rfl rfl (fun b10 => ?_)
 refine u_store_agg (i := 0) Tryz.sizeOf25 rfl rfl rfl (OneAll.c rfl) rfl rfl (cs' := [rS r7.1.fID, rS r7.1.fTenant, rS r7.1.fSource, rS r7.1.fKey, rI .i64 r7.1.fAt, rS r7.1.fCause, rSl 4 (List.map eTApiCell r7.1.fBody)]) rfl (H' := [.blk b10 (eTApiEvent r7.1) 25]) rfl ?_
 refine wa rfl ?_
 refine wl_y ?_
 obtain ⟨r11, e13, h12⟩ := obn_e h8
 refine wc0 Tryz.call27 (evExample_w r11 e13) rfl ?_
 obtain ⟨r14, e16, h15⟩ := obn_e h12
 refine wc0 Tryz.call27 (evExample_w r14 e16) rfl ?_
 refine wv (r := rSl 4 (List.map eTApiCell r14.fBody)) (o_field Tryz.underlying25 rfl Tryz.isAgg23 rfl rfl) ?_
 obtain ⟨r17, e19, h18⟩ := obn_e h15
 refine wc0 Tryz.call17 (eChild_w F r11 0 ([117] : Str) r14.fBody 6 r17 e19) rfl ?_
 refine wm rfl ?_
 refine wv (o_extract rfl rfl) ?_
 refine wv (o_extract rfl rfl) ?_
 refine w_alloc (cs := [rS ([] : Str), rS ([] : Str), rS ([] : Str), rS ([] : Str), rI .i64 0, rS ([] : Str), rv (.slice none 0 0)]) Tryz.zeroValue25 rfl rfl (fun b20 => ?_)
 refine u_store_agg (i := 0) Tryz.sizeOf25 rfl rfl rfl (OneAll.c rfl) rfl rfl (cs' := [rS r17.1.fID, rS r17.1.fTenant, rS r17.1.fSource, rS r17.1.fKey, rI .i64 r17.1.fAt, rS r17.1.fCause, rSl 4 (List.map eTApiCell r17.1.fBody)]) rfl (H' := [.blk b20 (eTApiEvent r17.1) 25, .blk b10 (eTApiEvent r7.1) 25]) rfl ?_
 refine wa rfl ?_
 refine wl_y ?_
 obtain ⟨r21, e23, h22⟩ := obn_e h18
 refine wc0 Tryz.call19 (eLineage_w F ([97, 46, 48, 46, 49, 50] : Str) r21 e23) rfl ?_
 refine wa rfl ?_
 refine wl_y ?_
 obtain ⟨r24, e26, h25⟩ := obn_e h22
 refine wc0 Tryz.call27 (evExample_w r24 e26) rfl ?_
 refine w_alloc (cs := [rS ([] : Str), rS ([] : Str), rS ([] : Str), rS ([] : Str), rI .i64 0, rS ([] : Str), rv (.slice none 0 0)]) Tryz.zeroValue25 rfl rfl (fun b27 => ?_)
 refine u_store_agg (i := 0) Tryz.sizeOf25 rfl rfl rfl (OneAll.c rfl) rfl rfl (cs' := [rS r24.fID, rS r24.fTenant, rS r24.fSource, rS r24.fKey, rI .i64 r24.fAt, rS r24.fCause, rSl 4 (List.map eTApiCell r24.fBody)]) rfl (H' := [.blk b27 (eTApiEvent r24) 25, .blk b20 (eTApiEvent r17.1) 25, .blk b10 (eTApiEvent r7.1) 25]) rfl ?_
 refine wl_y ?_
 refine wv (o_fieldAddr Tryz.underlying25 rfl Tryz.sizeOf3 rfl rfl) ?_
 refine u_store (i := 0) Tryz.sizeOf3 rfl rfl (one_c rfl) rfl rfl (cs' := [rS r24.fID, rS r24.fTenant, rS r24.fSource, rS r24.fKey, rI .i64 (-1), rS r24.fCause, rSl 4 (List.map eTApiCell r24.fBody)]) rfl (H' := [.blk b27 [rS r24.fID, rS r24.fTenant, rS r24.fSource, rS r24.fKey, rI .i64 (-1), rS r24.fCause, rSl 4 (List.map eTApiCell r24.fBody)] 25, .blk b20 (eTApiEvent r17.1) 25, .blk b10 (eTApiEvent r7.1) 25]) rfl ?_
 refine wl_x ?_
 refine wc_seq ?_
 obtain ⟨g28, h29⟩ := chk_e h25
 obtain ⟨g30, h31⟩ := chk_e h29
 obtain ⟨r32, e34, h33⟩ := obn_e h31
 obtain ⟨r35, e37, h36⟩ := obn_e h33
 obtain ⟨g38, h39⟩ := chk_e h36
 obtain ⟨g40, h41⟩ := chk_e h39
 obtain ⟨g42, h43⟩ := chk_e h41
 obtain ⟨g44, h45⟩ := chk_e h43
 obtain ⟨g46, h47⟩ := chk_e h45
 obtain ⟨g48, h49⟩ := chk_e h47
 obtain ⟨g50, h51⟩ := chk_e h49
 obtain ⟨r52, e54, h53⟩ := obn_e h51
 obtain ⟨g55, h56⟩ := chk_e h53
 obtain ⟨r57, e59, h58⟩ := obn_e h56
 obtain ⟨r60, e62, h61⟩ := obn_e h58
 refine wc_rdq [2, 3, 4, 5, 6, 7, 8] [⟨[], rI .i64 r4.2, 0⟩, ⟨[0], rB (decide (r4.2 = 0)), 0⟩, ⟨[1], rB (decide (r4.2 = 0)), 0⟩, ⟨[2], rI .i64 r7.2, 0⟩, ⟨[3, 2], rB (decide (r7.2 = 0)), 0⟩, ⟨[2, 4], rB (decide (r7.2 = 0)), 0⟩, ⟨[5], rB (decide (r7.2 = 0)), 0⟩, ⟨[6], rAgg (eTApiEvent r7.1), 1⟩, ⟨[6], rAgg (eTApiEvent r32), 0⟩, ⟨[7, 8, 6], rB r35, 0⟩, ⟨[6, 9], rB r35, 0⟩, ⟨[10], rB r35, 0⟩, ⟨[11], rI .i64 r17.2, 0⟩, ⟨[12, 11], rB (decide (r17.2 = 0)), 0⟩, ⟨[11, 13], rB (decide (r17.2 = 0)), 0⟩, ⟨[14], rB (decide (r17.2 = 0)), 0⟩, ⟨[15], rv (.pointer (some ⟨b20, 0, none⟩)), 0⟩, ⟨[16, 15], rS r17.1.fID, 1⟩, ⟨[17, 15], rB (decide (r17.1.fID = ([101, 49, 46, 48] : Str))), 0⟩, ⟨[15, 18], rB (decide (r17.1.fID = ([101, 49, 46, 48] : Str))), 0⟩, ⟨[19], rB (decide (r17.1.fID = ([101, 49, 46, 48] : Str))), 0⟩, ⟨[20], rv (.pointer (some ⟨b20, 5, none⟩)), 0⟩, ⟨[21, 20], rS r17.1.fCause, 1⟩, ⟨[22, 20], rB (decide (r17.1.fCause = ([101, 49] : Str))), 0⟩, ⟨[20, 23], rB (decide (r17.1.fCause = ([101, 49] : Str))), 0⟩, ⟨[24], rB (decide (r17.1.fCause = ([101, 49] : Str))), 0⟩, ⟨[25], rSl 1 (List.map eS r21), 0⟩, ⟨[26, 25], rI .i64 (r21.length : Int), 0⟩, ⟨[27, 25], rB (decide ((r21.length : Int) = 3)), 0⟩, ⟨[25, 28], rB (decide ((r21.length : Int) = 3)), 0⟩, ⟨[29], rB (decide ((r21.length : Int) = 3)), 0⟩, ⟨[30], rSl 1 (List.map eS r21), 0⟩, ⟨[31, 30], rAt [rS (at' r21 2)], 0⟩, ⟨[32, 30], rS (at' r21 2), 0⟩, ⟨[33, 30], rB (decide ((at' r21 2) = ([97] : Str))), 0⟩, ⟨[30, 34], rB (decide ((at' r21 2) = ([97] : Str))), 0⟩, ⟨[35], rB (decide ((at' r21 2) = ([97] : Str))), 0⟩, ⟨[36], rAgg [rS r24.fID, rS r24.fTenant, rS r24.fSource, rS r24.fKey, rI .i64 (-1), rS r24.fCause, rSl 4 (List.map eTApiCell r24.fBody)], 1⟩, ⟨[37, 36], rI .i64 r52, 0⟩, ⟨[38, 36], rB (decide (r52 = 2)), 0⟩, ⟨[36, 39], rB (decide (r52 = 2)), 0⟩, ⟨[40], rB (decide (r52 = 2)), 0⟩, ⟨[41], rAgg [rS r24.fID, rS r24.fTenant, rS r24.fSource, rS r24.fKey, rI .i64 (-1), rS r24.fCause, rSl 4 (List.map eTApiCell r24.fBody)], 1⟩, ⟨[41], rAgg (eTApiEvent r57), 0⟩, ⟨[42, 43, 41], rI .i64 r60, 0⟩, ⟨[44, 41], rB (decide (r60 = (-1))), 0⟩, ⟨[41, 45], rB (decide (r60 = (-1))), 0⟩, ⟨[46], rB (decide (r60 = (-1))), 0⟩] [0] ?_ ?_
 ·refine oq (o_move rfl) ?_
  refine oq (o_eq rfl rfl) ?_
  refine oq (o_move rfl) ?_
  refine on g28 ?_
  refine oq (o_move rfl) ?_
  refine on g28 ?_
  refine oq (o_eq rfl rfl) ?_
  refine oq (o_pick_t rfl g28 rfl) ?_
  refine oq (o_move rfl) ?_
  refine on g30 ?_
  refine of (o_load_agg (i := 2) Tryz.isAgg25 Tryz.sizeOf25 rfl rfl rfl rfl) ?_
  refine obl_q rfl (fun H => ok_on (b := decide (r7.2 = 0)) rfl rfl g30 (ok_c0 Tryz.call27 (evExample_w r32 e34) rfl)) ?_
  refine obl_q rfl (fun H => ok_on (b := decide (r7.2 = 0)) rfl rfl g30 (ok_c0 Tryz.call13 (eSame_w F r7.1 r32 r35 e37) rfl)) ?_
  refine oq (o_pick_t rfl g30 rfl) ?_
  refine oq (o_move rfl) ?_
  refine on g38 ?_
  refine oq (o_move rfl) ?_
  refine on g38 ?_
  refine oq (o_eq rfl rfl) ?_
  refine oq (o_pick_t rfl g38 rfl) ?_
  refine oq (o_move rfl) ?_
  refine on g40 ?_
  refine oq (o_fieldAddr Tryz.underlying25 rfl Tryz.sizeOf9 rfl rfl) ?_
  refine on g40 ?_
  refine of (o_load (i := 1) Tryz.isAgg9 rfl rfl rfl) ?_
  refine on g40 ?_
  refine oq (o_seq rfl rfl) ?_
  refine oq (o_pick_t rfl g40 rfl) ?_
  refine oq (o_move rfl) ?_
  refine on g42 ?_
  refine oq (o_fieldAddr Tryz.underlying25 rfl Tryz.sizeOf9 rfl rfl) ?_
  refine on g42 ?_
  refine of (o_load (i := 1) Tryz.isAgg9 rfl rfl rfl) ?_
  refine on g42 ?_
  refine oq (o_seq rfl rfl) ?_
  refine oq (o_pick_t rfl g42 rfl) ?_
  refine oq (o_move rfl) ?_
  refine on g44 ?_
  refine oq (o_move rfl) ?_
  refine on g44 ?_
  refine oq (o_len_zt (ys := r21) (enc := eS) Tryz.underlying36 rfl) ?_
  refine on g44 ?_
  refine oq (o_eq rfl rfl) ?_
  refine oq (o_pick_t rfl g44 rfl) ?_
  refine oq (o_move rfl) ?_
  refine on g46 ?_
  refine oq (o_move rfl) ?_
  refine on g46 ?_
  refine oq (o_ix_z (enc := eS) (ys := r21) Tryz.underlying36 Tryz.sizeOf9 rfl rfl g48) ?_
  refine on g46 ?_
  refine oq (o_load_z Tryz.isAgg9 rfl rfl) ?_
  refine on g46 ?_
  refine oq (o_seq rfl rfl) ?_
  refine oq (o_pick_t rfl g46 rfl) ?_
  refine oq (o_move rfl) ?_
  refine on g50 ?_
  refine of (o_load_agg (i := 0) Tryz.isAgg25 Tryz.sizeOf25 rfl rfl rfl rfl) ?_
  refine obl_q rfl (fun H => ok_on (b := decide ((at' r21 2) = ([97] : Str))) rfl rfl g50 (ok_c0 Tryz.call25 (eCheck_w F (TApiEvent.mk r24.fID r24.fTenant r24.fSource r24.fKey (-1) r24.fCause r24.fBody) r52 e54) rfl)) ?_
  refine on g50 ?_
  refine oq (o_eq rfl rfl) ?_
  refine oq (o_pick_t rfl g50 rfl) ?_
  refine oq (o_move rfl) ?_
  refine on g55 ?_
  refine of (o_load_agg (i := 0) Tryz.isAgg25 Tryz.sizeOf25 rfl rfl rfl rfl) ?_
  refine obl_q rfl (fun H => ok_on (b := decide (r52 = 2)) rfl rfl g55 (ok_c0 Tryz.call27 (evExample_w r57 e59) rfl)) ?_
  refine obl_q rfl (fun H => ok_on (b := decide (r52 = 2)) rfl rfl g55 (ok_c0 Tryz.call14 (eCmp_w (TApiEvent.mk r24.fID r24.fTenant r24.fSource r24.fKey (-1) r24.fCause r24.fBody) r57 r60 e62) rfl)) ?_
  refine on g55 ?_
  refine oq (o_eq rfl rfl) ?_
  refine oq (o_pick_t rfl g55 rfl) ?_
  refine oq (o_assign rfl) ?_
  exact obl_e
 refine wk_x ?_
 refine wc_ret ?_
 obtain rfl := some_e h61
 exact wk_ret (r_1 Tryz.results8 (rv_t rfl)) (sS (sS (sS sN))) ⟨rfl, rfl⟩

end Go.Proofs.YtpmiamphppcfeaaGreatDoor.Q

/-
 What functions compute, with checks: plain definitions, printed by a small program of ours (gq.py). No program in sight.
-/
namespace Go.Proofs.YtpmiamphppcfeaaGreatDoor
open Go
set_option linter.unusedVariables false
def lEvCompares (F : Nat) (a : TApiEvent) (b : TApiEvent) : Option (Bool) :=
 chk ((evSmall F a).isSome) <| chk (imp (!(!(ov (evSmall F a)))) ((evSmall F b).isSome)) <| cnd (((!(ov (evSmall F a))) || (!(ov (evSmall F b))))) (obn (evAwake F) fun r10 => some r10) (chk ((eSame F a b).isSome) <| chk ((rSameE F a b).isSome) <| chk (imp ((ov (eSame F a b)) == (ov (rSameE F a b))) ((eCmp a b).isSome)) <| chk (imp ((ov (eSame F a b)) == (ov (rSameE F a b))) ((rCmpE a b).isSome)) <| chk (imp ((ov (eSame F a b)) == (ov (rSameE F a b))) (imp (decide ((ov (eCmp a b)) = (ov (rCmpE a b)))) ((evAwake F).isSome))) <| some (((ov (eSame F a b)) == (ov (rSameE F a b))) && ((decide ((ov (eCmp a b)) = (ov (rCmpE a b)))) && (ov (evAwake F)))))

end Go.Proofs.YtpmiamphppcfeaaGreatDoor

/-
  Walks, printed by a small program of ours (gq.py).
-/
namespace Go.Proofs.YtpmiamphppcfeaaGreatDoor.Q
open Go Go.RowKit
set_option linter.unusedVariables false
set_option linter.unusedSimpArgs false
set_option maxRecDepth 100000
set_option maxHeartbeats 4000000
theorem lEvCompares_w (F : Nat) (a : TApiEvent) (b : TApiEvent) (r : Bool) (h : lEvCompares F a b = some r) : Fn Tryz.prog GE 4 [rAgg (eTApiEvent a), rAgg (eTApiEvent b)] [] (fun R H => R = rB r ∧ H = []) := by
 refine enter (n := 33) Tryz.func4 rfl Tryz.ntmps4 rfl (fun w Z => ?_)
 refine wc_as (l' := [(0, rAgg (eTApiEvent a)), (1, rAgg (eTApiEvent b))]) (H' := []) rfl rfl ?_
 unfold lEvCompares at h
 refine wc_sr ?_
 refine w_box_agg rfl rfl (fun b1 => ?_)
 refine w_box_agg rfl rfl (fun b2 => ?_)
 refine wv (r := rB false) (o_assign rfl) ?_
 refine wl_x ?_
 refine wc_seq ?_
 obtain ⟨g3, h4⟩ := chk_e h
 obtain ⟨g5, h6⟩ := chk_e h4
 refine wc_seq_mid [(2, rv (.pointer (some ⟨b1, 0, none⟩))), (3, rv (.pointer (some ⟨b2, 0, none⟩))), (12, rB ((!(ov (evSmall F a))) || (!(ov (evSmall F b)))))] [.blk b2 (eTApiEvent b) 25, .blk b1 (eTApiEvent a) 25] ?_ ?_
 ·refine wc_region ?_
  refine wv (o_load_agg (i := 1) Tryz.isAgg25 Tryz.sizeOf25 rfl rfl rfl rfl) ?_
  refine wc0 Tryz.call12 (evSmall_w F a (ov (evSmall F a)) (ov_e g3)) rfl ?_
  refine wv (o_not rfl) ?_
  refine wm rfl ?_
  refine bsplit (!(ov (evSmall F a))) (fun c7 => ?_) (fun c7 => ?_)
  ·refine wf c7 ?_
   refine wf c7 ?_
   refine wf c7 ?_
   refine wv (r := rB true) (o_pick_t (b := !(ov (evSmall F a))) rfl c7 rfl) ?_
   refine wl_nil ?_
   exact wtc c7
  ·refine wo c7 ?_
   refine wv (o_load_agg (i := 0) Tryz.isAgg25 Tryz.sizeOf25 rfl rfl rfl rfl) ?_
   refine wo c7 ?_
   refine wc0 Tryz.call12 (evSmall_w F b (ov (evSmall F b)) (ov_e (imp_f g5 c7))) rfl ?_
   refine wo c7 ?_
   refine wv (o_not rfl) ?_
   refine wpf rfl c7 rfl ?_
   refine wl_nil ?_
   exact wtc c7
 refine wc_cond (b := ((!(ov (evSmall F a))) || (!(ov (evSmall F b))))) rfl (fun c8 => ?_) (fun c8 => ?_)
 ·have h9 := cnd_t c8 h6
  refine wc_sr ?_
  obtain ⟨r10, e12, h11⟩ := obn_e h9
  refine wc0 Tryz.call8 (evAwake_w F r10 e12) rfl ?_
  refine wa rfl ?_
  refine wl_x ?_
  refine wc_ret ?_
  refine wk_then_ret ?_
  obtain rfl := some_e h11
  exact wk_ret (r_1 Tryz.results4 (rv_t rfl)) (sS (sS sN)) ⟨rfl, rfl⟩
 ·have h13 := cnd_f c8 h6
  refine wc_skip ?_
  refine wk_x ?_
  obtain ⟨g14, h15⟩ := chk_e h13
  obtain ⟨g16, h17⟩ := chk_e h15
  obtain ⟨g18, h19⟩ := chk_e h17
  obtain ⟨g20, h21⟩ := chk_e h19
  obtain ⟨g22, h23⟩ := chk_e h21
  refine wc_seq_mid [(4, rB (((ov (eSame F a b)) == (ov (rSameE F a b))) && ((decide ((ov (eCmp a b)) = (ov (rCmpE a b)))) && (ov (evAwake F)))))] [] ?_ ?_
  ·refine bsplit ((ov (eSame F a b)) == (ov (rSameE F a b))) (fun c24 => ?_) (fun c24 => ?_)
   ·refine bsplit (decide ((ov (eCmp a b)) = (ov (rCmpE a b)))) (fun c25 => ?_) (fun c25 => ?_)
    ·refine wc_rdq [2, 3] [⟨[], rAgg (eTApiEvent a), 1⟩, ⟨[], rAgg (eTApiEvent b), 1⟩, ⟨[0, 1], rB (ov (eSame F a b)), 0⟩, ⟨[], rAgg (eTApiEvent a), 1⟩, ⟨[], rAgg (eTApiEvent b), 1⟩, ⟨[3, 4], rB (ov (rSameE F a b)), 0⟩, ⟨[2, 5], rB ((ov (eSame F a b)) == (ov (rSameE F a b))), 0⟩, ⟨[6], rB ((ov (eSame F a b)) == (ov (rSameE F a b))), 0⟩, ⟨[7], rAgg (eTApiEvent a), 1⟩, ⟨[7], rAgg (eTApiEvent b), 1⟩, ⟨[8, 9, 7], rI .i64 (ov (eCmp a b)), 0⟩, ⟨[7], rAgg (eTApiEvent a), 1⟩, ⟨[7], rAgg (eTApiEvent b), 1⟩, ⟨[11, 12, 7], rI .i64 (ov (rCmpE a b)), 0⟩, ⟨[10, 13, 7], rB (decide ((ov (eCmp a b)) = (ov (rCmpE a b)))), 0⟩, ⟨[7, 14], rB (decide ((ov (eCmp a b)) = (ov (rCmpE a b)))), 0⟩, ⟨[15], rB (decide ((ov (eCmp a b)) = (ov (rCmpE a b)))), 0⟩, ⟨[16], rB (ov (evAwake F)), 0⟩, ⟨[16, 17], rB (ov (evAwake F)), 0⟩, ⟨[18], rB (ov (evAwake F)), 0⟩] [4] ?_ ?_
     ·refine of (o_load_agg (i := 1) Tryz.isAgg25 Tryz.sizeOf25 rfl rfl rfl rfl) ?_
      refine of (o_load_agg (i := 0) Tryz.isAgg25 Tryz.sizeOf25 rfl rfl rfl rfl) ?_
      refine obl_q rfl (fun H => ok_c0 Tryz.call13 (eSame_w F a b (ov (eSame F a b)) (ov_e g14)) rfl) ?_
      refine of (o_load_agg (i := 1) Tryz.isAgg25 Tryz.sizeOf25 rfl rfl rfl rfl) ?_
      refine of (o_load_agg (i := 0) Tryz.isAgg25 Tryz.sizeOf25 rfl rfl rfl rfl) ?_
      refine obl_q rfl (fun H => ok_c0 Tryz.call11 (rSameE_w F a b (ov (rSameE F a b)) (ov_e g16)) rfl) ?_
      refine oq (o_beq Tryz.underlying4 rfl rfl) ?_
      refine oq (o_move rfl) ?_
      refine on c24 ?_
      refine of (o_load_agg (i := 1) Tryz.isAgg25 Tryz.sizeOf25 rfl rfl rfl rfl) ?_
      refine on c24 ?_
      refine of (o_load_agg (i := 0) Tryz.isAgg25 Tryz.sizeOf25 rfl rfl rfl rfl) ?_
      refine obl_q rfl (fun H => ok_on (b := (ov (eSame F a b)) == (ov (rSameE F a b))) rfl rfl c24 (ok_c0 Tryz.call14 (eCmp_w a b (ov (eCmp a b)) (ov_e (imp_t g18 c24))) rfl)) ?_
      refine on c24 ?_
      refine of (o_load_agg (i := 1) Tryz.isAgg25 Tryz.sizeOf25 rfl rfl rfl rfl) ?_
      refine on c24 ?_
      refine of (o_load_agg (i := 0) Tryz.isAgg25 Tryz.sizeOf25 rfl rfl rfl rfl) ?_
      refine obl_q rfl (fun H => ok_on (b := (ov (eSame F a b)) == (ov (rSameE F a b))) rfl rfl c24 (ok_c0 Tryz.call15 (rCmpE_w a b (ov (rCmpE a b)) (ov_e (imp_t g20 c24))) rfl)) ?_
      refine on c24 ?_
      refine oq (o_eq rfl rfl) ?_
      refine oq (o_pick_t rfl c24 rfl) ?_
      refine oq (o_move rfl) ?_
      refine obl_q rfl (fun H => ok_on (b := decide ((ov (eCmp a b)) = (ov (rCmpE a b)))) rfl rfl c25 (ok_c0 Tryz.call8 (evAwake_w F (ov (evAwake F)) (ov_e (imp_t (imp_t g22 c24) c25))) rfl)) ?_
      refine oq (o_pick_t rfl c25 rfl) ?_
      refine oq (o_assign rfl) ?_
      exact obl_e
     exact wtc (And.intro c24 c25)
    ·refine wc_rdq [2, 3] [⟨[], rAgg (eTApiEvent a), 1⟩, ⟨[], rAgg (eTApiEvent b), 1⟩, ⟨[0, 1], rB (ov (eSame F a b)), 0⟩, ⟨[], rAgg (eTApiEvent a), 1⟩, ⟨[], rAgg (eTApiEvent b), 1⟩, ⟨[3, 4], rB (ov (rSameE F a b)), 0⟩, ⟨[2, 5], rB ((ov (eSame F a b)) == (ov (rSameE F a b))), 0⟩, ⟨[6], rB ((ov (eSame F a b)) == (ov (rSameE F a b))), 0⟩, ⟨[7], rAgg (eTApiEvent a), 1⟩, ⟨[7], rAgg (eTApiEvent b), 1⟩, ⟨[8, 9, 7], rI .i64 (ov (eCmp a b)), 0⟩, ⟨[7], rAgg (eTApiEvent a), 1⟩, ⟨[7], rAgg (eTApiEvent b), 1⟩, ⟨[11, 12, 7], rI .i64 (ov (rCmpE a b)), 0⟩, ⟨[10, 13, 7], rB (decide ((ov (eCmp a b)) = (ov (rCmpE a b)))), 0⟩, ⟨[7, 14], rB (decide ((ov (eCmp a b)) = (ov (rCmpE a b)))), 0⟩, ⟨[15], rB (decide ((ov (eCmp a b)) = (ov (rCmpE a b)))), 0⟩, ⟨[16], rv undef, 0⟩, ⟨[16, 17], rB false, 0⟩, ⟨[18], rB false, 0⟩] [4] ?_ ?_
     ·refine of (o_load_agg (i := 1) Tryz.isAgg25 Tryz.sizeOf25 rfl rfl rfl rfl) ?_
      refine of (o_load_agg (i := 0) Tryz.isAgg25 Tryz.sizeOf25 rfl rfl rfl rfl) ?_
      refine obl_q rfl (fun H => ok_c0 Tryz.call13 (eSame_w F a b (ov (eSame F a b)) (ov_e g14)) rfl) ?_
      refine of (o_load_agg (i := 1) Tryz.isAgg25 Tryz.sizeOf25 rfl rfl rfl rfl) ?_
      refine of (o_load_agg (i := 0) Tryz.isAgg25 Tryz.sizeOf25 rfl rfl rfl rfl) ?_
      refine obl_q rfl (fun H => ok_c0 Tryz.call11 (rSameE_w F a b (ov (rSameE F a b)) (ov_e g16)) rfl) ?_
      refine oq (o_beq Tryz.underlying4 rfl rfl) ?_
      refine oq (o_move rfl) ?_
      refine on c24 ?_
      refine of (o_load_agg (i := 1) Tryz.isAgg25 Tryz.sizeOf25 rfl rfl rfl rfl) ?_
      refine on c24 ?_
      refine of (o_load_agg (i := 0) Tryz.isAgg25 Tryz.sizeOf25 rfl rfl rfl rfl) ?_
      refine obl_q rfl (fun H => ok_on (b := (ov (eSame F a b)) == (ov (rSameE F a b))) rfl rfl c24 (ok_c0 Tryz.call14 (eCmp_w a b (ov (eCmp a b)) (ov_e (imp_t g18 c24))) rfl)) ?_
      refine on c24 ?_
      refine of (o_load_agg (i := 1) Tryz.isAgg25 Tryz.sizeOf25 rfl rfl rfl rfl) ?_
      refine on c24 ?_
      refine of (o_load_agg (i := 0) Tryz.isAgg25 Tryz.sizeOf25 rfl rfl rfl rfl) ?_
      refine obl_q rfl (fun H => ok_on (b := (ov (eSame F a b)) == (ov (rSameE F a b))) rfl rfl c24 (ok_c0 Tryz.call15 (rCmpE_w a b (ov (rCmpE a b)) (ov_e (imp_t g20 c24))) rfl)) ?_
      refine on c24 ?_
      refine oq (o_eq rfl rfl) ?_
      refine oq (o_pick_t rfl c24 rfl) ?_
      refine oq (o_move rfl) ?_
      refine oz c25 ?_
      refine oq (o_pick_f (b := decide ((ov (eCmp a b)) = (ov (rCmpE a b)))) rfl c25 rfl) ?_
      refine oq (o_assign rfl) ?_
      exact obl_e
     exact wtc (And.intro c24 c25)
   ·refine wc_rdq [2, 3] [⟨[], rAgg (eTApiEvent a), 1⟩, ⟨[], rAgg (eTApiEvent b), 1⟩, ⟨[0, 1], rB (ov (eSame F a b)), 0⟩, ⟨[], rAgg (eTApiEvent a), 1⟩, ⟨[], rAgg (eTApiEvent b), 1⟩, ⟨[3, 4], rB (ov (rSameE F a b)), 0⟩, ⟨[2, 5], rB ((ov (eSame F a b)) == (ov (rSameE F a b))), 0⟩, ⟨[6], rB ((ov (eSame F a b)) == (ov (rSameE F a b))), 0⟩, ⟨[7], rv undef, 0⟩, ⟨[7], rv undef, 0⟩, ⟨[8, 9, 7], rv undef, 0⟩, ⟨[7], rv undef, 0⟩, ⟨[7], rv undef, 0⟩, ⟨[11, 12, 7], rv undef, 0⟩, ⟨[10, 13, 7], rv undef, 0⟩, ⟨[7, 14], rB false, 0⟩, ⟨[15], rB false, 0⟩, ⟨[16], rv undef, 0⟩, ⟨[16, 17], rB false, 0⟩, ⟨[18], rB false, 0⟩] [4] ?_ ?_
    ·refine of (o_load_agg (i := 1) Tryz.isAgg25 Tryz.sizeOf25 rfl rfl rfl rfl) ?_
     refine of (o_load_agg (i := 0) Tryz.isAgg25 Tryz.sizeOf25 rfl rfl rfl rfl) ?_
     refine obl_q rfl (fun H => ok_c0 Tryz.call13 (eSame_w F a b (ov (eSame F a b)) (ov_e g14)) rfl) ?_
     refine of (o_load_agg (i := 1) Tryz.isAgg25 Tryz.sizeOf25 rfl rfl rfl rfl) ?_
     refine of (o_load_agg (i := 0) Tryz.isAgg25 Tryz.sizeOf25 rfl rfl rfl rfl) ?_
     refine obl_q rfl (fun H => ok_c0 Tryz.call11 (rSameE_w F a b (ov (rSameE F a b)) (ov_e g16)) rfl) ?_
     refine oq (o_beq Tryz.underlying4 rfl rfl) ?_
     refine oq (o_move rfl) ?_
     refine oz c24 ?_
     refine oz c24 ?_
     refine oz c24 ?_
     refine oz c24 ?_
     refine oz c24 ?_
     refine oz c24 ?_
     refine oz c24 ?_
     refine oq (o_pick_f (b := (ov (eSame F a b)) == (ov (rSameE F a b))) rfl c24 rfl) ?_
     refine oq (o_move rfl) ?_
     refine oz rfl ?_
     refine oq (o_pick_f (b := false) rfl rfl rfl) ?_
     refine oq (o_assign rfl) ?_
     exact obl_e
    exact wtc c24
  refine wc_ret ?_
  obtain rfl := some_e h23
  exact wk_ret (r_1 Tryz.results4 (rv_t rfl)) sN ⟨rfl, rfl⟩

end Go.Proofs.YtpmiamphppcfeaaGreatDoor.Q

/-
 What is known of the values that the law is handed. Plain definitions.
-/
namespace Go.Proofs.YtpmiamphppcfeaaGreatDoor.lawEventCompares
open Go
set_option linter.unusedVariables false
def ok51 (y : TApiCell) : Bool := (inK .i64) y.fKind && (inK .i64) y.fInt && okS y.fStr && (inK .i64) y.fN
def ok25 (y : TApiEvent) : Bool := okS y.fID && okS y.fTenant && okS y.fSource && okS y.fKey && (inK .i64) y.fAt && okS y.fCause && (fun ys : (List TApiCell) => ys.all ok51 && decide (ys.length ≤ 9223372036854775807)) y.fBody
def Law : Prop := ∀ (y0 : TApiEvent) (y1 : TApiEvent) (o0 : ok25 y0 = true) (o1 : ok25 y1 = true), ∃ F, lEvCompares F y0 y1 = some true
end Go.Proofs.YtpmiamphppcfeaaGreatDoor.lawEventCompares

/-
 What small functions of the package value and of its reference compute. Plain laws.
-/
namespace Go.Proofs.YtpmiamphppcfeaaGreatDoor
open Go
set_option linter.unusedVariables false
set_option linter.unusedSimpArgs false
def okc (c : UInt8) : Bool := decide (32 ≤ c.toNat) && decide (c.toNat ≤ 126)
theorem bat_get {s : Str} {x : Int} {c : UInt8} (h : s[x.toNat]? = some c) : bat s x = (c.toNat : Int) := by simp [bat, h]
theorem take_all_succ {α : Type} {p : α → Bool} {s : List α} {k : Nat} {c : α} (h : s[k]? = some c) : (s.take (k + 1)).all p = ((s.take k).all p && p c) := by
 rw [List.take_add_one, h]; simp
theorem all_false_of {α : Type} {p : α → Bool} {s : List α} {k : Nat} {c : α} (h : s[k]? = some c) (hp : p c = false) : s.all p = false := by
 rw [List.all_eq_false]; exact ⟨c, List.mem_of_getElem? h, by simp [hp]⟩
theorem vText_eq {F : Nat} {s : Str} (hF : s.length < F) (hs : s.length ≤ 9223372036854775807) : vText F s = some (s.all okc) := by
 obtain ⟨o, h1, h2⟩ := lop_ind (body := fun σ => vText_b1 s σ) (fun x => 0 ≤ x ∧ x ≤ (s.length : Int) ∧ (s.take x.toNat).all okc = true) (fun x => s.length - x.toNat)
  (fun o => oute (fun _ => vText_k1) o = some (s.all okc)) (fun x ⟨h0, hl, ha⟩ => by
   unfold vText_b1
   by_cases hx : x < (s.length : Int)
   ·obtain ⟨c, hc⟩ : ∃ c, s[x.toNat]? = some c := ⟨s[x.toNat]'(by omega), List.getElem?_eq_getElem (by omega)⟩
    rw [cnd_tt (by simpa using hx), chk_inR h0 hx, bat_get hc]
    cases ho : okc c with
    | false =>
     refine .inr ⟨.ret false, ?_, ?_⟩
     ·rw [cnd_tt]
      simp only [okc, Bool.and_eq_false_iff, decide_eq_false_iff_not] at ho
      simp only [Bool.or_eq_true, decide_eq_true_eq]; omega
     ·simp [oute, all_false_of hc ho]
    | true =>
     refine .inl ⟨x + 1, ?_, ⟨by omega, by omega, ?_⟩, by omega⟩
     ·rw [cnd_ff, chk_i64 (by omega) (by omega)]
      simp only [okc, Bool.and_eq_true, decide_eq_true_eq] at ho
      simp only [Bool.or_eq_false_iff, decide_eq_false_iff_not]; omega
     ·rw [show (x + 1).toNat = x.toNat + 1 from by omega, take_all_succ hc, ha, ho]; rfl
   ·refine .inr ⟨.go (), by rw [cnd_ff (by simpa using hx)], ?_⟩
    rw [show x.toNat = s.length from by omega, List.take_length] at ha
    simp [oute, vText_k1, ha]) F 0 ⟨by omega, by omega, by simp⟩ (by simpa using hF)
 unfold vText
 rw [obn_s h1, h2]
theorem rPlain_vText (F : Nat) (s : Str) : rPlain F s = vText F s := rfl
theorem rPlain_eq {F : Nat} {s : Str} (hF : s.length < F) (hs : s.length ≤ 9223372036854775807) : rPlain F s = some (s.all okc) := by rw [rPlain_vText]; exact vText_eq hF hs
def pl (c : TApiCell) : Bool :=
 bif decide (c.fKind = 1) then (decide (c.fInt = 0) && (decide (c.fStr = []) && decide (c.fN = 0))) else
 bif decide (c.fKind = 2) then ((decide (c.fInt = 0) || decide (c.fInt = 1)) && (decide (c.fStr = []) && decide (c.fN = 0))) else
 bif decide (c.fKind = 3) then (decide (c.fStr = []) && decide (c.fN = 0)) else
 bif decide (c.fKind = 4) then (decide (c.fInt = 0) && (decide (c.fN = 0) && c.fStr.all okc)) else
 bif decide (c.fKind = 5) then (decide (c.fInt = 0) && (decide (c.fStr = []) && decide (0 ≤ c.fN))) else
 bif decide (c.fKind = 6) then (decide (c.fInt = 0) && (decide (c.fStr = []) && decide (0 ≤ c.fN))) else false
theorem cnd_some {α : Type} {p : Bool} {x y : Option α} {a b : α} (h : x = some a) (h' : y = some b) : cnd p x y = some (bif p then a else b) := by cases p <;> simp [cnd, h, h']
theorem vPlain_eq {F : Nat} {c : TApiCell} (hF : c.fStr.length < F) (hs : c.fStr.length ≤ 9223372036854775807) : vPlain F c = some (pl c) := by
 unfold vPlain pl
 rw [vText_eq hF hs]
 refine cnd_some rfl (cnd_some ?_ (cnd_some rfl (cnd_some ?_ (cnd_some rfl (cnd_some rfl rfl)))))
 ·cases h : decide (c.fInt = 0) <;> simp
 ·simp [imp, chk, ov]
def clr : List TValueOpen → List TValueOpen
 | [] => []
 | e :: S => bif decide (1 < e.fLeft) then ⟨e.fPairs, e.fLeft - 1, e.fPairs, e.fLast, e.fStarted⟩ :: S else clr S
theorem at_last {α : Type} [Inhabited α] (xs : List α) (e : α) : at' (xs ++ [e]) (xs.length : Int) = e := by simp [at']
theorem set_last {α : Type} (xs : List α) (e e' : α) : List.set (xs ++ [e]) (Int.toNat (xs.length : Int)) e' = xs ++ [e'] := by simp
theorem len_last {α : Type} (xs : List α) (e : α) : ((xs ++ [e]).length : Int) - 1 = (xs.length : Int) := by simp
theorem take_last {α : Type} (xs : List α) (e : α) : List.take (Int.toNat (xs.length : Int)) (xs ++ [e]) = xs := by simp
theorem vClosed_lop : ∀ (S : List TValueOpen) (F : Nat), S.length < F → (∀ e ∈ S, 1 ≤ e.fLeft ∧ e.fLeft ≤ 9223372036854775807) → S.length ≤ 4611686018427387904 →
  ∃ o, lop (fun σ => vClosed_b1 σ) F S.reverse = some o ∧ oute (fun ν => vClosed_k1 ν) o = some (clr S).reverse
 | [], F + 1, _, _, _ => ⟨.go [], by simp [lop, vClosed_b1, cnd], by simp [oute, vClosed_k1, clr]⟩
 | e :: S, F + 1, hF, hb, hl => by
  obtain ⟨h1, h2⟩ := hb e (by simp)
  simp only [List.length_cons] at hF hl
  have hx : S.reverse.length = S.length := by simp
  generalize hxs : S.reverse = xs at hx
  have hr : (e :: S).reverse = xs ++ [e] := by simp [hxs]
  rw [hr]
  have hb1 : vClosed_b1 (xs ++ [e]) = bif decide (1 < e.fLeft) then some (.out (.ret (xs ++ [⟨e.fPairs, e.fLeft - 1, e.fPairs, e.fLast, e.fStarted⟩]))) else some (.next xs) := by
   unfold vClosed_b1
   rw [cnd_tt (by simp)]
   simp only [len_last, at_last, set_last, bnd]
   rw [chk_i64 (by omega) (by omega), chk_inR (by omega) (by simp; omega), chk_i64 (by omega) (by omega)]
   cases hd : decide (1 < e.fLeft) with
   | true =>
    rw [cnd_tt (by simp at hd ⊢; omega)]; rfl
   | false =>
    rw [cnd_ff (by simp at hd ⊢; omega), chk_i64 (by omega) (by omega), chk_inC (by omega) (by simp; omega), take_last]; rfl
  rw [lop, hb1]
  cases hd : decide (1 < e.fLeft) with
  | true => exact ⟨_, rfl, by simp [oute, vClosed_k1, clr, hd, hxs]⟩
  | false =>
   obtain ⟨o, ho1, ho2⟩ := vClosed_lop S F (by omega) (fun e he => hb e (by simp [he])) (by omega)
   rw [hxs] at ho1
   exact ⟨o, ho1, by rw [ho2]; simp [clr, hd]⟩
theorem vClosed_eq {S : List TValueOpen} {F : Nat} (hF : S.length < F) (hb : ∀ e ∈ S, 1 ≤ e.fLeft ∧ e.fLeft ≤ 9223372036854775807) (hl : S.length ≤ 4611686018427387904) : vClosed F S.reverse = some (clr S).reverse := by
 obtain ⟨o, h1, h2⟩ := vClosed_lop S F hF hb hl
 unfold vClosed
 rw [obn_s h1, h2]
end Go.Proofs.YtpmiamphppcfeaaGreatDoor

/-
 value.look, one cell at a time. Plain laws.
-/
namespace Go.Proofs.YtpmiamphppcfeaaGreatDoor
open Go
set_option linter.unusedVariables false
set_option linter.unusedSimpArgs false
def qlen (s : Str) : Int := s.length + 2 + s.count 34 + s.count 92
theorem vQuoted_eq {s : Str} (hs : s.length ≤ 1152921504606846976) : vQuoted s = some (qlen s) := by
 have h1 : s.count 34 ≤ s.length := List.count_le_length
 have h2 : s.count 92 ≤ s.length := List.count_le_length
 unfold vQuoted Lib.countByte
 rw [chk_i64 (by omega) (by omega), chk_i64 (by omega) (by omega), chk_i64 (by omega) (by omega)]
 rfl
def szc (c : TApiCell) : Int :=
 bif decide (c.fKind = 1) then 4 else bif decide (c.fKind = 2) then IntKind.wrap .i64 (5 - c.fInt) else bif decide (c.fKind = 3) then ((Lib.itoa c.fInt).length : Int) else
 bif decide (c.fKind = 4) then qlen c.fStr else IntKind.wrap .i64 (2 + max 0 (IntKind.wrap .i64 (c.fN - 1)))
theorem vSize_eq {c : TApiCell} (hs : c.fStr.length ≤ 1152921504606846976) (hi : inK .i64 c.fInt = true) : vSize c = some (szc c) := by
 unfold vSize szc
 rw [vQuoted_eq hs]
 refine cnd_some rfl (cnd_some rfl (cnd_some ?_ (cnd_some rfl rfl)))
 rw [chk_t hi]
def shc (d : Nat) (sh : TValueShape) (c : TApiCell) : TValueShape :=
 ⟨max sh.fDepth ((d : Int) + 1), IntKind.wrap .i64 (sh.fBytes + szc c), sh.fOutside || (decide (c.fKind = 3) && !(decide ((-1000000000000) ≤ c.fInt) && decide (c.fInt ≤ 1000000000000))), sh.fLong || decide (200 < (c.fStr.length : Int))⟩
def shk (sh : TValueShape) (c : TApiCell) : TValueShape := ⟨sh.fDepth, IntKind.wrap .i64 (sh.fBytes + (qlen c.fStr + 1)), sh.fOutside, sh.fLong || decide (200 < (c.fStr.length : Int))⟩
abbrev LkS := List TValueOpen × Int × TValueShape
abbrev LkO := Out (Int × TValueShape × Bool) TValueShape
def lkc (n : Int) (S : List TValueOpen) (i : Int) (sh : TValueShape) (c : TApiCell) : Stp LkS LkO :=
 bif !pl c then .out (.ret (0, sh, false)) else
 match S with
 | e :: S' =>
  bif e.fKey then
   bif !decide (c.fKind = 4) || (e.fStarted && (sLess c.fStr e.fLast || decide (c.fStr = e.fLast))) then .out (.ret (0, sh, false))
   else .next ((⟨e.fPairs, e.fLeft, false, c.fStr, true⟩ :: S').reverse, i + 1, shk sh c)
  else bif decide (0 < c.fN) then
   bif decide (n < c.fN) then .out (.ret (0, shc S.length sh c, false))
   else .next ((⟨decide (c.fKind = 6), c.fN, decide (c.fKind = 6), [], false⟩ :: S).reverse, i + 1, shc S.length sh c)
  else bif decide (clr S = []) then .out (.ret (i + 1, shc S.length sh c, true)) else .next ((clr S).reverse, i + 1, shc S.length sh c)
 | [] =>
  bif decide (0 < c.fN) then
   bif decide (n < c.fN) then .out (.ret (0, shc 0 sh c, false))
   else .next ([⟨decide (c.fKind = 6), c.fN, decide (c.fKind = 6), [], false⟩], i + 1, shc 0 sh c)
  else .out (.ret (i + 1, shc 0 sh c, true))
theorem clr_nil_length {S : List TValueOpen} : decide (((clr S).reverse.length : Int) = 0) = decide (clr S = []) := by
 rw [Bool.eq_iff_iff]; simp
theorem inA48 {α : Type} {xs : List α} {e x : α} {M : Nat} (h : xs.length + 1 ≤ M) (hM2 : (M + 2) * 48 ≤ 140737488355328) : inA 48 ((xs ++ [e]).length + ([x] : List α).length) = true := by
 refine decide_eq_true (Nat.le_trans (Nat.mul_le_mul_right 48 ?_) hM2)
 rw [List.length_append, List.length_singleton, List.length_singleton]; omega
set_option maxHeartbeats 600000 in
theorem vLook_b1_eq {F : Nat} {v : List TApiCell} {S : List TValueOpen} {i : Int} {sh : TValueShape} {c : TApiCell} (h0 : 0 ≤ i) (hc : v[i.toNat]? = some c) {M : Nat} (hM : M ≤ 1152921504606846976) (hM2 : (M + 2) * 48 ≤ 140737488355328) (hv : v.length ≤ M) (hS : S.length ≤ M) (hF : M < F)
  (hs : c.fStr.length ≤ M) (hi : inK .i64 c.fInt = true) (hb : ∀ e ∈ S, 1 ≤ e.fLeft ∧ e.fLeft ≤ 9223372036854775807) : vLook_b1 F v S.reverse i sh = some (lkc v.length S i sh c) := by
 have hil : i.toNat < v.length := (List.getElem?_eq_some_iff.1 hc).1
 have hat : at' v i = c := by simp [at', hc]
 unfold vLook_b1 lkc
 rw [cnd_tt (by simp; omega), chk_inR h0 (by omega), hat, vPlain_eq (by omega) (by omega), obn_s rfl]
 cases hp : pl c with
 | false => rw [cnd_tt (by simp)]; rfl
 | true =>
  rw [cnd_ff (by simp)]
  cases S with
  | nil =>
   rw [chk_t (by simp [imp]), chk_t (by simp [imp]), cnd_ff (by simp), chk_i64 (by simp) (by simp), vSize_eq (by omega) hi, obn_s rfl, chk_t (by simp [imp, nValid])]
   simp only [nValid, ov, Option.getD_some, Bool.not_true, cond_false]
   cases hn : decide (0 < c.fN) with
   | true =>
    rw [cnd_tt rfl]
    cases hm : decide ((v.length : Int) < c.fN) with
    | true => rw [cnd_tt rfl]; simp [shc]
    | false => rw [cnd_ff rfl, chk_t (by simp [inA])]; unfold vLook_j2; rw [chk_i64 (by omega) (by omega)]; simp [shc]
   | false =>
    rw [cnd_ff rfl, obn_s (vClosed_eq (S := []) (by simp; omega) (by simp) (by simp)), cnd_tt (by simp [clr]), chk_i64 (by omega) (by omega)]; simp [shc]
  | cons e S' =>
   have hx : S'.reverse.length = S'.length := by simp
   generalize hxs : S'.reverse = xs at hx
   have hr : (e :: S').reverse = xs ++ [e] := by simp [hxs]
   simp only [List.length_cons] at hS
   have hlen : ((xs ++ [e]).length : Int) = (xs.length : Int) + 1 := by simp
   rw [hr, chk_t (by simp only [imp, len_last]; rw [inK_i64' (by omega) (by omega)]; simp), chk_t (by simp only [imp, len_last]; rw [inR' (by omega) (by omega)]; simp)]
   rw [len_last, at_last]
   cases hk : e.fKey with
   | true =>
    rw [cnd_tt (by simp), chk_i64 (by omega) (by omega), chk_inR (by omega) (by omega)]
    simp only [hk, Bool.not_true, cond_false, cond_true]
    cases ht : !decide (c.fKind = 4) || (e.fStarted && (sLess c.fStr e.fLast || decide (c.fStr = e.fLast))) with
    | true => rw [cnd_tt rfl]; rfl
    | false =>
     rw [cnd_ff rfl, set_last, bnd, at_last, set_last, bnd, at_last, set_last, bnd, vQuoted_eq (by omega), obn_s rfl, chk_i64 (by unfold qlen; omega) (by unfold qlen; have := @List.count_le_length UInt8 _ 34 c.fStr; have := @List.count_le_length UInt8 _ 92 c.fStr; omega)]
     unfold vLook_j2
     rw [chk_i64 (by omega) (by omega)]
     simp [shk, hxs]
   | false =>
    rw [cnd_ff (by simp), hlen, chk_i64 (by omega) (by omega), vSize_eq (by omega) hi, obn_s rfl, chk_t (by simp [imp, nValid])]
    simp only [hk, nValid, ov, Option.getD_some, Bool.not_true, cond_false, cond_true]
    cases hn : decide (0 < c.fN) with
    | true =>
     rw [cnd_tt rfl]
     cases hm : decide ((v.length : Int) < c.fN) with
     | true => rw [cnd_tt rfl]; simp [shc, hx]
     | false => rw [cnd_ff rfl, chk_t (inA48 (by omega) hM2)]; unfold vLook_j2; rw [chk_i64 (by omega) (by omega)]; simp [shc, hx, hxs]
    | false =>
     have hcl := vClosed_eq (S := e :: S') (F := F) (by simp; omega) hb (by simp; omega)
     rw [hr] at hcl
     rw [cnd_ff rfl, hcl, obn_s rfl, clr_nil_length]
     cases hq : decide (clr (e :: S') = []) with
     | true => rw [cnd_tt rfl, chk_i64 (by omega) (by omega)]; simp [shc, hx]
     | false => rw [cnd_ff rfl]; unfold vLook_j2; rw [chk_i64 (by omega) (by omega)]; simp [shc, hx]
end Go.Proofs.YtpmiamphppcfeaaGreatDoor

/-
 Values as forests; value.look on the cells of a forest. Plain laws.
-/
namespace Go.Proofs.YtpmiamphppcfeaaGreatDoor
open Go
set_option linter.unusedVariables false
set_option linter.unusedSimpArgs false
section
variable {S O : Type} {body : S → Option (Stp S O)} {s t u : S} {o : O}
def Reach (body : S → Option (Stp S O)) (s t : S) : Prop := ∃ k, ∀ n, lop body (n + k) s = lop body n t
def Fin (body : S → Option (Stp S O)) (s : S) (o : O) : Prop := ∃ k, ∀ n, lop body (n + k) s = some o
theorem Reach.refl (s : S) : Reach body s s := ⟨0, fun _ => rfl⟩
theorem Reach.trans (h : Reach body s t) (h' : Reach body t u) : Reach body s u := by
 obtain ⟨k, hk⟩ := h
 obtain ⟨j, hj⟩ := h'
 exact ⟨j + k, fun n => by rw [← Nat.add_assoc, hk, hj]⟩
theorem Reach.step (h : body s = some (.next t)) : Reach body s t := ⟨1, fun n => by rw [lop, h]⟩
theorem Fin.step (h : body s = some (.out o)) : Fin body s o := ⟨1, fun n => by rw [lop, h]⟩
theorem Reach.fin (h : Reach body s t) (h' : Fin body t o) : Fin body s o := by
 obtain ⟨k, hk⟩ := h
 obtain ⟨j, hj⟩ := h'
 exact ⟨j + k, fun n => by rw [← Nat.add_assoc, hk, hj]⟩
end
inductive Fo where
 | nil
 | cell (k : Option Str) (c : TApiCell) (r : Fo)
 | node (k : Option Str) (c : TApiCell) (kids r : Fo)
def keyC : Option Str → List TApiCell
 | none => []
 | some s => [⟨4, 0, s, 0⟩]
def Fo.flat : Fo → List TApiCell
 | .nil => []
 | .cell k c r => keyC k ++ c :: r.flat
 | .node k c kids r => keyC k ++ c :: (kids.flat ++ r.flat)
def Fo.cnt : Fo → Nat
 | .nil => 0
 | .cell _ _ r => r.cnt + 1
 | .node _ _ _ r => r.cnt + 1
def keyOk (m : Bool) (last : Option Str) : Option Str → Bool
 | none => !m
 | some s => m && s.all okc && (match last with
  | none => true
  | some p => !(sLess s p || decide (s = p)))
def Fo.wf : Bool → Option Str → Fo → Bool
 | _, _, .nil => true
 | m, last, .cell k c r => keyOk m last k && pl c && !decide (0 < c.fN) && r.wf m k
 | m, last, .node k c kids r => keyOk m last k && pl c && decide (0 < c.fN) && decide (c.fN = kids.cnt) && kids.wf (decide (c.fKind = 6)) none && r.wf m k
def shK (k : Option Str) (sh : TValueShape) : TValueShape := match k with
 | none => sh
 | some s => shk sh ⟨4, 0, s, 0⟩
def Fo.sh (d : Nat) : TValueShape → Fo → TValueShape
 | s, .nil => s
 | s, .cell k c r => r.sh d (shc d (shK k s) c)
 | s, .node k c kids r => r.sh d (kids.sh (d + 1) (shc d (shK k s) c))
def Done (body : LkS → Option (Stp LkS LkO)) (s : LkS) (S : List TValueOpen) (i : Int) (sh : TValueShape) : Prop :=
 if clr S = [] then Fin body s (.ret (i, sh, true)) else Reach body s ((clr S).reverse, i, sh)
theorem Done.of {body : LkS → Option (Stp LkS LkO)} {s t : LkS} {S : List TValueOpen} {i : Int} {sh : TValueShape} (h : Reach body s t) (h' : Done body t S i sh) : Done body s S i sh := by
 unfold Done at *
 split
 ·rename_i e; rw [if_pos e] at h'; exact h.fin h'
 ·rename_i e; rw [if_neg e] at h'; exact h.trans h'
theorem Done.more {body : LkS → Option (Stp LkS LkO)} {s : LkS} {e : TValueOpen} {S : List TValueOpen} {i : Int} {sh : TValueShape} (h : Done body s (e :: S) i sh) (h1 : 1 < e.fLeft) : Reach body s ((⟨e.fPairs, e.fLeft - 1, e.fPairs, e.fLast, e.fStarted⟩ :: S).reverse, i, sh) := by
 have : clr (e :: S) = ⟨e.fPairs, e.fLeft - 1, e.fPairs, e.fLast, e.fStarted⟩ :: S := by simp [clr, h1]
 unfold Done at *
 rw [this, if_neg (by simp)] at h; exact h
end Go.Proofs.YtpmiamphppcfeaaGreatDoor

/-
 value.look on the cells of a forest: it goes through them. Plain laws.
-/
namespace Go.Proofs.YtpmiamphppcfeaaGreatDoor
open Go
set_option linter.unusedVariables false
set_option linter.unusedSimpArgs false
structure LkA (F M : Nat) (v : List TApiCell) : Prop where
 hM : M ≤ 1152921504606846976
 hM2 : (M + 2) * 48 ≤ 140737488355328
 hv : v.length ≤ M
 hF : M < F
 hc : ∀ c ∈ v, c.fStr.length ≤ M ∧ inK .i64 c.fInt = true ∧ c.fN ≤ 9223372036854775807
abbrev lkB (F : Nat) (v : List TApiCell) : LkS → Option (Stp LkS LkO) := fun σ => vLook_b1 F v σ.1 σ.2.1 σ.2.2
def lefts (S : List TValueOpen) : Prop := ∀ e ∈ S, 1 ≤ e.fLeft ∧ e.fLeft ≤ 9223372036854775807
section
variable {F M : Nat} {v : List TApiCell} {S : List TValueOpen} {i : Int} {sh : TValueShape} {c : TApiCell} {r : List TApiCell} {e : TValueOpen}
theorem drop_get (h0 : 0 ≤ i) (h : v.drop i.toNat = c :: r) : v[i.toNat]? = some c ∧ v.drop (i + 1).toNat = r ∧ i < v.length := by
 have h1 : (v.drop i.toNat)[0]? = some c := by rw [h]; rfl
 have h2 : v[i.toNat]? = some c := by simpa using h1
 have h3 := (List.getElem?_eq_some_iff.1 h2).1
 refine ⟨h2, ?_, by omega⟩
 rw [show (i + 1).toNat = i.toNat + 1 from by omega, ← List.drop_drop, h]; rfl
theorem round (hA : LkA F M v) (h0 : 0 ≤ i) (h : v.drop i.toNat = c :: r) (hS : (S.length : Int) ≤ i) (hb : lefts S) : lkB F v (S.reverse, i, sh) = some (lkc v.length S i sh c) := by
 obtain ⟨h1, _, h3⟩ := drop_get h0 h
 obtain ⟨a, b, _⟩ := hA.hc c (List.mem_of_getElem? h1)
 have := hA.hv
 exact vLook_b1_eq h0 h1 hA.hM hA.hM2 hA.hv (by omega) hA.hF a b hb
theorem drop_app {α : Type} {v xs r : List α} {i : Int} (h0 : 0 ≤ i) (h : v.drop i.toNat = xs ++ r) : v.drop (i + xs.length).toNat = r := by
 rw [show (i + (xs.length : Int)).toNat = i.toNat + xs.length from by omega, ← List.drop_drop, h, List.drop_left]
end
end Go.Proofs.YtpmiamphppcfeaaGreatDoor

/-
 value.look always ends; what it says of a value. Plain laws.
-/
namespace Go.Proofs.YtpmiamphppcfeaaGreatDoor
open Go
set_option linter.unusedVariables false
set_option linter.unusedSimpArgs false
def Fo.one : Fo → Bool
 | .cell none _ .nil => true
 | .node none _ _ .nil => true
 | _ => false
end Go.Proofs.YtpmiamphppcfeaaGreatDoor

/-
 Reading values of cells: a plain reader; value.look says what it says. Plain laws.
-/
namespace Go.Proofs.YtpmiamphppcfeaaGreatDoor
open Go
set_option linter.unusedVariables false
set_option linter.unusedSimpArgs false
def prsK (m : Bool) (last : Option Str) (xs : List TApiCell) : Option (Option Str × List TApiCell) :=
 bif m then match xs with
  | [] => none
  | c :: r => bif pl c && decide (c.fKind = 4) && keyOk true last (some c.fStr) then some (some c.fStr, r) else none
 else some (none, xs)
def prs : Nat → Bool → Option Str → Nat → List TApiCell → Option (Fo × List TApiCell)
 | 0, _, _, _, _ => none
 | _ + 1, _, _, 0, xs => some (.nil, xs)
 | F + 1, m, last, k + 1, xs =>
  match prsK m last xs with
  | none => none
  | some (_, []) => none
  | some (key, c :: xs') =>
   bif !pl c then none else
   bif decide (0 < c.fN) then
    match prs F (decide (c.fKind = 6)) none c.fN.toNat xs' with
    | none => none
    | some (kids, ys) => match prs F m key k ys with
     | none => none
     | some (r, zs) => some (.node key c kids r, zs)
   else match prs F m key k xs' with
    | none => none
    | some (r, zs) => some (.cell key c r, zs)
theorem pl_key {c : TApiCell} (hp : pl c = true) (hk : c.fKind = 4) : c = ⟨4, 0, c.fStr, 0⟩ ∧ c.fStr.all okc = true := by
 cases c
 simp only at hk; subst hk
 simp [pl] at hp
 obtain ⟨h1, h2, h3⟩ := hp
 subst h1; subst h2
 exact ⟨rfl, by simpa using h3⟩
theorem prsK_ok {m : Bool} {last key : Option Str} {xs r : List TApiCell} (h : prsK m last xs = some (key, r)) : xs = keyC key ++ r ∧ keyOk m last key = true := by
 unfold prsK at h
 cases m with
 | false => cases h; exact ⟨rfl, rfl⟩
 | true =>
  simp only [cond_true] at h
  cases xs with
  | nil => cases h
  | cons c r' =>
   simp only at h
   cases hb : (pl c && decide (c.fKind = 4) && keyOk true last (some c.fStr)) with
   | false => rw [hb] at h; cases h
   | true =>
    rw [hb] at h
    simp only [Bool.and_eq_true, decide_eq_true_eq] at hb
    cases h
    exact ⟨by rw [(pl_key hb.1.1 hb.1.2).1]; rfl, hb.2⟩
theorem prs_ok : ∀ (F : Nat) (m : Bool) (last : Option Str) (k : Nat) (xs : List TApiCell) (f : Fo) (ys : List TApiCell), prs F m last k xs = some (f, ys) → xs = f.flat ++ ys ∧ f.wf m last = true ∧ f.cnt = k
 | 0, _, _, _, _, _, _, h => by cases h
 | F + 1, m, last, 0, xs, f, ys, h => by cases h; exact ⟨rfl, rfl, rfl⟩
 | F + 1, m, last, k + 1, xs, f, ys, h => by
  rw [prs] at h
  cases hk : prsK m last xs with
  | none => rw [hk] at h; cases h
  | some p =>
   obtain ⟨key, r⟩ := p
   obtain ⟨h1, h2⟩ := prsK_ok hk
   rw [hk] at h
   cases r with
   | nil => cases h
   | cons c xs' =>
    simp only at h
    cases hp : pl c with
    | false => rw [hp] at h; cases h
    | true =>
     rw [hp] at h
     simp only [Bool.not_true, cond_false] at h
     cases hn : decide (0 < c.fN) with
     | true =>
      rw [hn] at h
      simp only [cond_true] at h
      cases hq : prs F (decide (c.fKind = 6)) none c.fN.toNat xs' with
      | none => rw [hq] at h; cases h
      | some q =>
       obtain ⟨kids, zs⟩ := q
       rw [hq] at h
       simp only at h
       cases hr : prs F m key k zs with
       | none => rw [hr] at h; cases h
       | some q2 =>
        obtain ⟨r2, us⟩ := q2
        rw [hr] at h; cases h
        obtain ⟨a1, a2, a3⟩ := prs_ok F _ _ _ _ _ _ hq
        obtain ⟨b1, b2, b3⟩ := prs_ok F _ _ _ _ _ _ hr
        refine ⟨by rw [h1, a1, b1]; simp [Fo.flat], ?_, by simp [Fo.cnt, b3]⟩
        simp only [decide_eq_true_eq] at hn
        simp only [Fo.wf, h2, hp, a2, b2, Bool.and_true, Bool.true_and, Bool.and_eq_true, decide_eq_true_eq]
        omega
     | false =>
      rw [hn] at h
      simp only [cond_false] at h
      cases hr : prs F m key k xs' with
      | none => rw [hr] at h; cases h
      | some q2 =>
       obtain ⟨r2, us⟩ := q2
       rw [hr] at h; cases h
       obtain ⟨b1, b2, b3⟩ := prs_ok F _ _ _ _ _ _ hr
       exact ⟨by rw [h1, b1]; simp [Fo.flat], by simp [Fo.wf, h2, hp, b2, hn], by simp [Fo.cnt, b3]⟩
theorem prs_fuel : ∀ (F F' : Nat) (m : Bool) (last : Option Str) (k : Nat) (xs : List TApiCell), xs.length < F → xs.length < F' → prs F m last k xs = prs F' m last k xs
 | 0, _, _, _, _, _, h, _ => by omega
 | _ + 1, 0, _, _, _, _, _, h => by omega
 | F + 1, F' + 1, m, last, 0, xs, _, _ => rfl
 | F + 1, F' + 1, m, last, k + 1, xs, h, h' => by
  rw [prs, prs]
  cases hk : prsK m last xs with
  | none => rfl
  | some p =>
   obtain ⟨key, r⟩ := p
   obtain ⟨h1, h2⟩ := prsK_ok hk
   cases r with
   | nil => rfl
   | cons c xs' =>
    have hl : xs'.length < xs.length := by rw [h1]; simp; omega
    simp only
    cases hp : pl c with
    | false => rfl
    | true =>
     simp only [Bool.not_true, cond_false]
     cases hn : decide (0 < c.fN) with
     | true =>
      simp only [cond_true]
      rw [prs_fuel F F' _ _ _ xs' (by omega) (by omega)]
      cases hq : prs F' (decide (c.fKind = 6)) none c.fN.toNat xs' with
      | none => rfl
      | some q =>
       obtain ⟨kids, zs⟩ := q
       have := (prs_ok _ _ _ _ _ _ _ hq).1
       have hz : zs.length ≤ xs'.length := by rw [this]; simp
       simp only
       rw [prs_fuel F F' m key k zs (by omega) (by omega)]
     | false =>
      simp only [cond_false]
      rw [prs_fuel F F' m key k xs' (by omega) (by omega)]
section
variable {F M : Nat} {v : List TApiCell}
def prs1 (xs : List TApiCell) : Option (Fo × List TApiCell) := prs (xs.length + 1) false none 1 xs
theorem prs_one {P : Nat} {xs ys : List TApiCell} {f : Fo} (h : prs P false none 1 xs = some (f, ys)) : f.one = true := by
 obtain ⟨h1, h2, h3⟩ := prs_ok _ _ _ _ _ _ _ h
 cases f with
 | nil => cases h3
 | cell k c r =>
  cases r with
  | nil =>
   cases k with
   | none => rfl
   | some s => simp [Fo.wf, keyOk] at h2
  | cell _ _ _ => simp [Fo.cnt] at h3
  | node _ _ _ _ => simp [Fo.cnt] at h3
 | node k c kids r =>
  cases r with
  | nil =>
   cases k with
   | none => rfl
   | some s => simp [Fo.wf, keyOk] at h2
  | cell _ _ _ => simp [Fo.cnt] at h3
  | node _ _ _ _ => simp [Fo.cnt] at h3
end
end Go.Proofs.YtpmiamphppcfeaaGreatDoor

/-
 Forests: depth, bytes, text; what value.look tells of them. Plain laws.
-/
namespace Go.Proofs.YtpmiamphppcfeaaGreatDoor
open Go
set_option linter.unusedVariables false
set_option linter.unusedSimpArgs false
theorem pl_N {c : TApiCell} (hp : pl c = true) : 0 ≤ c.fN := by
 simp only [pl, ← Bool.decide_or] at hp
 cases h1 : decide (c.fKind = 1) <;> cases h2 : decide (c.fKind = 2) <;> cases h3 : decide (c.fKind = 3) <;> cases h4 : decide (c.fKind = 4) <;> cases h5 : decide (c.fKind = 5) <;> cases h6 : decide (c.fKind = 6) <;> simp [h1, h2, h3, h4, h5, h6] at hp <;> omega
def Fo.put (k : Option Str) : Fo → Fo → Fo
 | .cell _ c _, r => .cell k c r
 | .node _ c kids _, r => .node k c kids r
 | .nil, _ => .nil
theorem prs_cons (P : Nat) (m : Bool) (last : Option Str) (k : Nat) (xs : List TApiCell) : prs (P + 2) m last (k + 1) xs =
  match prsK m last xs with
  | none => none
  | some (key, ys) => match prs (P + 2) false none 1 ys with
   | none => none
   | some (f, zs) => match prs (P + 1) m key k zs with
    | none => none
    | some (r, us) => some (f.put key r, us) := by
 rw [prs]
 cases hk : prsK m last xs with
 | none => rfl
 | some p =>
  obtain ⟨key, ys⟩ := p
  simp only
  rw [prs]
  simp only [prsK, cond_false]
  cases ys with
  | nil => rfl
  | cons c ys =>
   simp only
   cases hp : pl c with
   | false => rfl
   | true =>
    simp only [Bool.not_true, cond_false]
    cases hn : decide (0 < c.fN) with
    | true =>
     simp only [cond_true]
     cases hq : prs (P + 1) (decide (c.fKind = 6)) none c.fN.toNat ys with
     | none => rfl
     | some q =>
      obtain ⟨kids, zs⟩ := q
      simp only [prs]
      cases hr : prs (P + 1) m key k zs with
      | none => rfl
      | some q => obtain ⟨a, b⟩ := q; rfl
    | false =>
     simp only [cond_false, prs]
     cases hr : prs (P + 1) m key k ys with
     | none => rfl
     | some q => obtain ⟨a, b⟩ := q; rfl
end Go.Proofs.YtpmiamphppcfeaaGreatDoor

/-
 The reference reads values as the plain reader does. Plain laws.
-/
namespace Go.Proofs.YtpmiamphppcfeaaGreatDoor
open Go
set_option linter.unusedVariables false
set_option linter.unusedSimpArgs false
def prsF (m : Bool) (last : Option Str) (k : Nat) (xs : List TApiCell) : Option (Fo × List TApiCell) := prs (xs.length + 1) m last k xs
theorem prsF_zero (m : Bool) (last : Option Str) (xs : List TApiCell) : prsF m last 0 xs = some (.nil, xs) := rfl
theorem prsF_cons (m : Bool) (last : Option Str) (k : Nat) (xs : List TApiCell) : prsF m last (k + 1) xs =
  match prsK m last xs with
  | none => none
  | some (key, ys) => match prs1 ys with
   | none => none
   | some (f, zs) => match prsF m key k zs with
    | none => none
    | some (r, us) => some (f.put key r, us) := by
 unfold prsF prs1
 rw [prs_fuel (xs.length + 1) (xs.length + 2) m last (k + 1) xs (by omega) (by omega), prs_cons]
 cases hk : prsK m last xs with
 | none => rfl
 | some p =>
  obtain ⟨key, ys⟩ := p
  have h1 := (prsK_ok hk).1
  have hy : ys.length ≤ xs.length := by rw [h1]; simp
  simp only
  rw [prs_fuel (xs.length + 2) (ys.length + 1) false none 1 ys (by omega) (by omega)]
  cases hf : prs (ys.length + 1) false none 1 ys with
  | none => rfl
  | some q =>
   obtain ⟨f, zs⟩ := q
   have h2 := (prs_ok _ _ _ _ _ _ _ hf).1
   have hz : zs.length ≤ ys.length := by rw [h2]; simp
   simp only
   rw [prs_fuel (xs.length + 1) (zs.length + 1) m key k zs (by omega) (by omega)]
   all_goals (cases prs (zs.length + 1) m key k zs <;> rfl)
theorem lop_n {S O : Type} {body : S → Option (Stp S O)} {n : Nat} {s s' : S} {o : O} (h : body s = some (.next s')) (h' : lop body n s' = some o) : lop body (n + 1) s = some o := by rw [lop, h]; exact h'
theorem lop_o {S O : Type} {body : S → Option (Stp S O)} {n : Nat} {s : S} {o : O} (h : body s = some (.out o)) : lop body (n + 1) s = some o := by rw [lop, h]
theorem prs1_nil : prs1 [] = none := rfl
theorem prs1_cons (c : TApiCell) (r : List TApiCell) : prs1 (c :: r) = bif !pl c then none else bif decide (0 < c.fN) then (match prsF (decide (c.fKind = 6)) none c.fN.toNat r with
  | none => none
  | some (kids, zs) => some (.node none c kids .nil, zs)) else some (.cell none c .nil, r) := by
 unfold prs1
 rw [prs]
 simp only [prsK, cond_false]
 cases hp : pl c with
 | false => rfl
 | true =>
  simp only [Bool.not_true, cond_false]
  cases hn : decide (0 < c.fN) with
  | true =>
   simp only [cond_true]
   unfold prsF
   rw [List.length_cons]
   cases hq : prs (r.length + 1) (decide (c.fKind = 6)) none c.fN.toNat r with
   | none => rfl
   | some q => obtain ⟨kids, zs⟩ := q; rfl
  | false => rfl
theorem put_flat {f : Fo} (h : f.one = true) (key : Option Str) (r : Fo) : (f.put key r).flat = keyC key ++ (f.flat ++ r.flat) := by
 cases f with
 | nil => cases h
 | cell k c r' =>
  cases k with
  | some s => cases h
  | none => cases r' with
   | nil => simp [Fo.put, Fo.flat, keyC]
   | cell _ _ _ => cases h
   | node _ _ _ _ => cases h
 | node k c kids r' =>
  cases k with
  | some s => cases h
  | none => cases r' with
   | nil => simp [Fo.put, Fo.flat, keyC]
   | cell _ _ _ => cases h
   | node _ _ _ _ => cases h
theorem one_flat {f : Fo} (h : f.one = true) : 1 ≤ f.flat.length := by
 cases f with
 | nil => cases h
 | cell k c r' => simp [Fo.flat]; omega
 | node k c kids r' => simp [Fo.flat]; omega
theorem prs1_ok {xs ys : List TApiCell} {f : Fo} (h : prs1 xs = some (f, ys)) : xs = f.flat ++ ys ∧ f.wf false none = true ∧ f.one = true :=
 ⟨(prs_ok _ _ _ _ _ _ _ h).1, (prs_ok _ _ _ _ _ _ _ h).2.1, prs_one h⟩
def nxt (v : List TApiCell) (i : Int) : Int := match prs1 (v.drop i.toNat) with
 | none => -1
 | some (f, _) => i + f.flat.length
def nxts (m : Bool) (last : Option Str) (v : List TApiCell) (i : Int) (k : Nat) : Int := match prsF m last k (v.drop i.toNat) with
 | none => -1
 | some (f, _) => i + f.flat.length
theorem nxt_range {v : List TApiCell} {i : Int} (h0 : 0 ≤ i) (h1 : i ≤ v.length) : nxt v i = -1 ∨ (i < nxt v i ∧ nxt v i ≤ v.length) := by
 unfold nxt
 cases h : prs1 (v.drop i.toNat) with
 | none => exact .inl rfl
 | some q =>
  obtain ⟨f, ys⟩ := q
  obtain ⟨h2, _, h3⟩ := prs1_ok h
  have := one_flat h3
  have hl : (v.drop i.toNat).length = f.flat.length + ys.length := by rw [h2]; simp
  rw [List.length_drop] at hl
  right; simp only; omega
structure RfA (F M : Nat) (v : List TApiCell) : Prop where
 hM : M ≤ 1152921504606846976
 hv : v.length ≤ M
 hF : M < F
 hc : ∀ c ∈ v, c.fStr.length ≤ M
theorem rAfter_eq (ok : Bool) {i : Int} (h0 : 0 ≤ i) (h1 : i ≤ 1152921504606846976) : rAfter ok i = some (bif ok then i + 1 else -1) := by
 unfold rAfter
 cases ok
 ·rfl
 ·rw [cnd_tt rfl, chk_i64 (by omega) (by omega)]; rfl
theorem rKey_eq {F : Nat} {c : TApiCell} (hF : c.fStr.length < F) (hs : c.fStr.length ≤ 1152921504606846976) : rKey F c = some (decide (c.fKind = 4) && pl c) := by
 unfold rKey
 rw [rPlain_eq hF (by omega)]
 simp only [Option.isSome_some, ov, Option.getD_some, imp, Bool.or_true, chk, cond_true]
 cases h4 : decide (c.fKind = 4) with
 | false => rfl
 | true =>
  simp only [decide_eq_true_eq] at h4
  simp [pl, h4]
theorem at_drop {v : List TApiCell} {i : Int} {c : TApiCell} {r : List TApiCell} (h0 : 0 ≤ i) (h : v.drop i.toNat = c :: r) : at' v i = c := by
 have := (drop_get h0 h).1
 simp [at', this]
section
variable {M : Nat} {v : List TApiCell}
theorem rElements_lop {F : Nat} (hA : RfA F M v) {g : List TApiCell → Int → Option Int} {n : Int} (hn : n ≤ 9223372036854775807) : ∀ (L : Nat) (i x : Int), 0 ≤ i → i ≤ v.length → 0 ≤ x → x ≤ n → (∀ j, i ≤ j → j ≤ v.length → g v j = some (nxt v j)) → v.length - i.toNat < L →
  ∃ o, lop (fun σ => rElements_b1 v n g σ.1 σ.2) L (i, x) = some o ∧ oute (fun ν => rElements_k1 ν) o = some (nxts false none v i (n - x).toNat)
 | 0, i, x, _, _, _, _, _, h => by omega
 | L + 1, i, x, h0, h1, hx, hxn, hg, hL => by
  cases hxl : decide (x < n) with
  | false =>
   refine ⟨.go i, lop_o (by show rElements_b1 v n g i x = _; unfold rElements_b1; rw [cnd_ff hxl]), ?_⟩
   simp only [decide_eq_false_iff_not] at hxl
   rw [show (n - x).toNat = 0 from by omega]
   simp [oute, rElements_k1, nxts, prsF_zero, Fo.flat]
  | true =>
   have hb : rElements_b1 v n g i x = cnd (decide (nxt v i < 0)) (some (.out (.ret (-1)))) (chk (inK .i64 (x + 1)) <| some (.next (nxt v i, x + 1))) := by unfold rElements_b1; rw [cnd_tt hxl, hg i (Int.le_refl i) h1, obn_s rfl]
   simp only [decide_eq_true_eq] at hxl
   obtain ⟨k, hk⟩ : ∃ k, (n - x).toNat = k + 1 := ⟨(n - x).toNat - 1, by omega⟩
   rw [hk]
   have e : nxts false none v i (k + 1) = bif decide (nxt v i < 0) then -1 else nxts false none v (nxt v i) k := by
    unfold nxts
    rw [prsF_cons]
    simp only [prsK, cond_false]
    cases hp : prs1 (v.drop i.toNat) with
    | none => simp [nxt, hp]
    | some q =>
     obtain ⟨f, ys⟩ := q
     obtain ⟨q1, q2, q3⟩ := prs1_ok hp
     have hi : nxt v i = i + f.flat.length := by simp [nxt, hp]
     have hd : v.drop (nxt v i).toNat = ys := by rw [hi]; exact drop_app h0 q1
     rw [hd, decide_eq_false (by omega)]
     simp only [cond_false]
     cases hr : prsF false none k ys with
     | none => rfl
     | some q =>
      obtain ⟨r, zs⟩ := q
      simp only [put_flat q3, keyC, List.nil_append, List.length_append, hi]; omega
   rw [e]
   rcases nxt_range (v := v) h0 h1 with hneg | ⟨hlt, hle⟩
   ·exact ⟨.ret (-1), lop_o (hb.trans (by rw [hneg, cnd_tt (by decide)])), by rw [hneg]; rfl⟩
   ·have hM := hA.hM; have hvM := hA.hv
    obtain ⟨o, ho1, ho2⟩ := rElements_lop hA hn L (nxt v i) (x + 1) (by omega) hle (by omega) (by omega) (fun j hj => hg j (by omega)) (by omega)
    exact ⟨o, lop_n (hb.trans (by rw [cnd_ff (decide_eq_false (by omega)), chk_i64 (by omega) (by omega)])) ho1, by rw [ho2, show (n - (x + 1)).toNat = k from by omega, decide_eq_false (by omega)]; rfl⟩
theorem rPairs_lop {F : Nat} (hA : RfA F M v) {g : List TApiCell → Int → Option Int} {n : Int} (hn : n ≤ 9223372036854775807) : ∀ (L : Nat) (i x : Int) (last : Str), 0 ≤ i → i ≤ v.length → 0 ≤ x → x ≤ n → (∀ j, i ≤ j → j ≤ v.length → g v j = some (nxt v j)) → v.length - i.toNat < L →
  ∃ o, lop (fun σ => rPairs_b1 F v n g σ.1 σ.2.1 σ.2.2) L (i, last, x) = some o ∧ oute (fun ν => rPairs_k1 ν) o = some (nxts true (bif decide (0 < x) then some last else none) v i (n - x).toNat)
 | 0, i, x, _, _, _, _, _, _, h => by omega
 | L + 1, i, x, last, h0, h1, hx, hxn, hg, hL => by
  have hM := hA.hM; have hvM := hA.hv; have hMF := hA.hF
  cases hxl : decide (x < n) with
  | false =>
   refine ⟨.go i, lop_o (by show rPairs_b1 F v n g i last x = _; unfold rPairs_b1; rw [cnd_ff hxl]), ?_⟩
   simp only [decide_eq_false_iff_not] at hxl
   rw [show (n - x).toNat = 0 from by omega]
   simp [oute, rPairs_k1, nxts, prsF_zero, Fo.flat]
  | true =>
   have hxl' := hxl
   simp only [decide_eq_true_eq] at hxl
   obtain ⟨k, hk⟩ : ∃ k, (n - x).toNat = k + 1 := ⟨(n - x).toNat - 1, by omega⟩
   rw [hk]
   cases hd : v.drop i.toNat with
   | nil =>
    have hl : v.length ≤ i.toNat := by simpa using hd
    refine ⟨.ret (-1), lop_o (by
     show rPairs_b1 F v n g i last x = _
     unfold rPairs_b1
     rw [cnd_tt hxl', chk_t (by simp [imp, show (v.length : Int) ≤ i from by omega]), chk_t (by simp [imp, show (v.length : Int) ≤ i from by omega]), cnd_tt (by simp [show (v.length : Int) ≤ i from by omega])]), ?_⟩
    simp [oute, nxts, hd, prsF_cons, prsK]
   | cons c r =>
    obtain ⟨g1, g2, g3⟩ := drop_get h0 hd
    have hcM := hA.hc c (List.mem_of_getElem? g1)
    have hat := at_drop h0 hd
    have hnl : decide ((v.length : Int) ≤ i) = false := by simp; omega
    have hb : rPairs_b1 F v n g i last x = cnd (!(decide (c.fKind = 4) && pl c) || decide (0 < x) && (sLess c.fStr last || decide (c.fStr = last))) (some (.out (.ret (-1)))) (obn (g v (i + 1)) fun r106 => cnd (decide (r106 < 0)) (some (.out (.ret (-1)))) (chk (inK .i64 (x + 1)) <| some (.next (r106, c.fStr, x + 1)))) := by
     unfold rPairs_b1
     rw [cnd_tt hxl', chk_t (by simp only [imp]; rw [inR' h0 g3]; simp), hat, rKey_eq (by omega) (by omega), chk_t (by simp [imp])]
     simp only [hnl, ov, Option.getD_some, Bool.false_or]
     rw [chk_inR h0 g3, chk_i64 (by omega) (by omega)]
    have hpk : prsK true (bif decide (0 < x) then some last else none) (c :: r) = bif (!(decide (c.fKind = 4) && pl c) || decide (0 < x) && (sLess c.fStr last || decide (c.fStr = last))) then none else some (some c.fStr, r) := by
     simp only [prsK, cond_true]
     cases h4 : decide (c.fKind = 4) with
     | false => simp
     | true =>
      cases hp : pl c with
      | false => simp
      | true =>
       have hok := (pl_key hp (by simpa using h4)).2
       cases h0x : decide (0 < x) with
       | false => simp [keyOk, hok]
       | true => cases hs : (sLess c.fStr last || decide (c.fStr = last)) <;> simp [keyOk, hok, hs]
    cases ht : (!(decide (c.fKind = 4) && pl c) || decide (0 < x) && (sLess c.fStr last || decide (c.fStr = last))) with
    | true =>
     rw [ht] at hpk
     refine ⟨.ret (-1), lop_o (hb.trans (cnd_tt ht)), ?_⟩
     simp only [nxts, hd, prsF_cons, hpk, cond_true]; rfl
    | false =>
     rw [ht] at hpk
     rw [cnd_ff ht, hg (i + 1) (by omega) (by omega), obn_s rfl] at hb
     have e : nxts true (bif decide (0 < x) then some last else none) v i (k + 1) = bif decide (nxt v (i + 1) < 0) then -1 else nxts true (some c.fStr) v (nxt v (i + 1)) k := by
      unfold nxts
      rw [hd, prsF_cons, hpk]
      simp only [cond_false]
      have hx : nxt v (i + 1) = match prs1 r with | none => -1 | some (f, _) => i + 1 + f.flat.length := by unfold nxt; rw [g2]
      cases hp : prs1 r with
      | none => rw [hp] at hx; simp [hx]
      | some q =>
       obtain ⟨f, ys⟩ := q
       obtain ⟨q1, q2, q3⟩ := prs1_ok hp
       rw [hp] at hx
       simp only at hx
       have hd2 : v.drop (nxt v (i + 1)).toNat = ys := by rw [hx]; exact drop_app (by omega) (g2.trans q1)
       rw [hd2, decide_eq_false (by omega)]
       simp only [cond_false]
       cases hr : prsF true (some c.fStr) k ys with
       | none => rfl
       | some q =>
        obtain ⟨r', zs⟩ := q
        simp only [put_flat q3, keyC, List.length_append, List.length_cons, List.length_nil, hx]; omega
     rw [e]
     rcases nxt_range (v := v) (i := i + 1) (by omega) (by omega) with hneg | ⟨hlt, hle⟩
     ·exact ⟨.ret (-1), lop_o (hb.trans (by rw [hneg, cnd_tt (by decide)])), by rw [hneg]; rfl⟩
     ·obtain ⟨o, ho1, ho2⟩ := rPairs_lop hA hn L (nxt v (i + 1)) (x + 1) c.fStr (by omega) hle (by omega) (by omega) (fun j hj => hg j (by omega)) (by omega)
      exact ⟨o, lop_n (hb.trans (by rw [cnd_ff (decide_eq_false (by omega)), chk_i64 (by omega) (by omega)])) ho1, by rw [ho2, show (n - (x + 1)).toNat = k from by omega, decide_eq_true (show (0 : Int) < x + 1 from by omega), decide_eq_false (by omega)]; rfl⟩
theorem nxts_one {i : Int} {c : TApiCell} {r : List TApiCell} (h0 : 0 ≤ i) (hd : v.drop i.toNat = c :: r) (hp : pl c = true) : nxt v i = nxts (decide (c.fKind = 6)) none v (i + 1) c.fN.toNat := by
 have g2 := (drop_get h0 hd).2.1
 have hN := pl_N hp
 unfold nxt nxts
 rw [hd, prs1_cons, g2, hp]
 simp only [Bool.not_true, cond_false]
 cases hn : decide (0 < c.fN) with
 | true =>
  simp only [cond_true]
  cases hq : prsF (decide (c.fKind = 6)) none c.fN.toNat r with
  | none => rfl
  | some q =>
   obtain ⟨kids, zs⟩ := q
   simp only [Fo.flat, keyC, List.nil_append, List.length_cons, List.append_nil]; omega
 | false =>
  simp only [decide_eq_false_iff_not] at hn
  rw [show c.fN.toNat = 0 from by omega, prsF_zero]
  simp [Fo.flat, keyC]
theorem rNext_eq (hA : RfA (M + 1) M v) (hN : ∀ c ∈ v, c.fN ≤ 9223372036854775807) : ∀ (d F : Nat) (i : Int), 0 ≤ i → i ≤ v.length → v.length - i.toNat = d → M + 2 * d + 3 < F → rNext F v i = some (nxt v i) := by
 have hM := hA.hM; have hvM := hA.hv
 intro d
 induction d using Nat.strongRecOn with
 | ind d ih =>
  intro F i h0 h1 hd hF
  obtain ⟨F, rfl⟩ : ∃ G, F = G + 1 := ⟨F - 1, by omega⟩
  obtain ⟨F, rfl⟩ : ∃ G, F = G + 1 := ⟨F - 1, by omega⟩
  rw [rNext]
  unfold rNextm
  cases hdr : v.drop i.toNat with
  | nil =>
   have hl : v.length ≤ i.toNat := by simpa using hdr
   rw [cnd_tt (by simp; omega)]
   simp [nxt, hdr, prs1_nil]
  | cons c r =>
   obtain ⟨g1, g2, g3⟩ := drop_get h0 hdr
   have hcM := hA.hc c (List.mem_of_getElem? g1)
   have hcN := hN c (List.mem_of_getElem? g1)
   rw [cnd_ff (by simp; omega), chk_inR h0 g3, at_drop h0 hdr]
   simp only [rAfter_eq _ h0 (show i ≤ 1152921504606846976 by omega), Option.isSome_some, ov, Option.getD_some, imp, Bool.or_true, chk_t (x := _) (rfl : true = true)]
   have hg : ∀ j, i + 1 ≤ j → j ≤ v.length → rNext F v j = some (nxt v j) := fun j hj hj2 => ih (v.length - j.toNat) (by omega) F j (by omega) hj2 rfl (by omega)
   have hpl0 : pl c = false → nxt v i = -1 := fun hp => by simp [nxt, hdr, prs1_cons, hp]
   have hleaf : pl c = true → c.fN = 0 → nxt v i = i + 1 := fun hp h0' => by simp [nxt, hdr, prs1_cons, hp, h0', Fo.flat, keyC]
   have hscal : ∀ b : Bool, pl c = b → (b = true → c.fN = 0) → nxt v i = bif b then i + 1 else -1 := fun b hb hz => by
    cases b
    ·exact hpl0 hb
    ·exact hleaf hb (hz rfl)
   by_cases k1 : c.fKind = 1
   ·rw [cnd_tt (by simp [k1])]
    have hp : pl c = (decide (c.fInt = 0) && (decide (c.fStr = []) && decide (c.fN = 0))) := by simp [pl, k1]
    rw [hscal _ hp (fun h => by simp at h; exact h.2.2)]
    cases decide (c.fInt = 0) <;> cases decide (c.fStr = []) <;> cases decide (c.fN = 0) <;> rfl
   rw [cnd_ff (by simp [k1])]
   by_cases k2 : c.fKind = 2
   ·rw [cnd_tt (by simp [k2])]
    have hp : pl c = ((decide (c.fInt = 0) || decide (c.fInt = 1)) && (decide (c.fStr = []) && decide (c.fN = 0))) := by simp [pl, k2]
    rw [hscal _ hp (fun h => by simp at h; exact h.2.2)]
    cases decide (c.fInt = 0) <;> cases decide (c.fInt = 1) <;> cases decide (c.fStr = []) <;> cases decide (c.fN = 0) <;> rfl
   rw [cnd_ff (by simp [k2])]
   by_cases k3 : c.fKind = 3
   ·rw [cnd_tt (by simp [k3])]
    have hp : pl c = (decide (c.fStr = []) && decide (c.fN = 0)) := by simp [pl, k3]
    rw [hscal _ hp (fun h => by simp at h; exact h.2)]
    cases decide (c.fStr = []) <;> cases decide (c.fN = 0) <;> rfl
   rw [cnd_ff (by simp [k3])]
   by_cases k4 : c.fKind = 4
   ·rw [cnd_tt (by simp [k4]), rKey_eq (by omega) (by omega), obn_s rfl, obn_s rfl]
    rw [decide_eq_true k4, Bool.true_and, hscal (pl c) rfl (fun hp => by have := (pl_key hp k4).1; rw [this])]
   rw [cnd_ff (by simp [k4])]
   by_cases k5 : c.fKind = 5
   ·have hp : pl c = (decide (c.fInt = 0) && (decide (c.fStr = []) && decide (0 ≤ c.fN))) := by simp [pl, k5]
    rw [show (decide (c.fKind = 5) && (decide (c.fInt = 0) && (decide (c.fStr = []) && decide (0 ≤ c.fN)))) = pl c from by rw [hp, decide_eq_true k5, Bool.true_and]]
    have k5' : ¬ c.fKind = 6 := by omega
    cases hb : pl c with
    | false => rw [cnd_ff rfl, cnd_ff (by simp [k5]), hpl0 hb]
    | true =>
     have hn0 := pl_N hb
     rw [cnd_tt rfl, chk_i64 (by omega) (by omega), rElements]
     unfold rElementsm
     obtain ⟨o, ho1, ho2⟩ := rElements_lop (F := F) ⟨hM, hvM, by omega, hA.hc⟩ hcN F (i + 1) 0 (by omega) (by omega) (Int.le_refl 0) hn0 hg (by omega)
     rw [obn_s ho1, ho2, obn_s rfl, nxts_one h0 hdr hb, decide_eq_false k5', Int.sub_zero]
   rw [cnd_ff (by simp [k5])]
   by_cases k6 : c.fKind = 6
   ·have hp : pl c = (decide (c.fInt = 0) && (decide (c.fStr = []) && decide (0 ≤ c.fN))) := by simp [pl, k6]
    rw [show (decide (c.fKind = 6) && (decide (c.fInt = 0) && (decide (c.fStr = []) && decide (0 ≤ c.fN)))) = pl c from by rw [hp, decide_eq_true k6, Bool.true_and]]
    cases hb : pl c with
    | false => rw [cnd_ff rfl, hpl0 hb]
    | true =>
     have hn0 := pl_N hb
     rw [cnd_tt rfl, chk_i64 (by omega) (by omega), rPairs]
     unfold rPairsm
     obtain ⟨o, ho1, ho2⟩ := rPairs_lop (F := F) ⟨hM, hvM, by omega, hA.hc⟩ hcN F (i + 1) 0 [] (by omega) (by omega) (Int.le_refl 0) hn0 hg (by omega)
     rw [obn_s ho1, ho2, obn_s rfl, nxts_one h0 hdr hb, decide_eq_true k6, Int.sub_zero]
     rfl
   ·rw [cnd_ff (by simp [k6]), hpl0 (by simp [pl, k1, k2, k3, k4, k5, k6])]
end
end Go.Proofs.YtpmiamphppcfeaaGreatDoor

/-
 The plain reader reads each forest's cells; value.Check, and the reference's levels. Plain laws.
-/
namespace Go.Proofs.YtpmiamphppcfeaaGreatDoor
open Go
set_option linter.unusedVariables false
set_option linter.unusedSimpArgs false
structure CkA (M : Nat) (v : List TApiCell) : Prop where
 hM : M ≤ 1000000000
 hv : v.length ≤ M
 hc : ∀ c ∈ v, c.fStr.length ≤ M ∧ inK .i64 c.fInt = true ∧ c.fN ≤ 9223372036854775807
theorem CkA.rf {M F : Nat} {v : List TApiCell} (h : CkA M v) (hF : M < F) : RfA F M v := ⟨by have := h.hM; omega, h.hv, hF, fun c hc => (h.hc c hc).1⟩
theorem CkA.drop {M : Nat} {v : List TApiCell} (h : CkA M v) (k : Nat) : CkA M (v.drop k) := ⟨h.hM, by have := h.hv; rw [List.length_drop]; omega, fun c hc => h.hc c (List.mem_of_mem_drop hc)⟩
theorem CkA.take {M : Nat} {v : List TApiCell} (h : CkA M v) (k : Nat) : CkA M (v.take k) := ⟨h.hM, by have := h.hv; rw [List.length_take]; omega, fun c hc => h.hc c (List.mem_of_mem_take hc)⟩
def whole (v : List TApiCell) : Option Fo := match prs1 v with
 | some (f, []) => some f
 | _ => none
end Go.Proofs.YtpmiamphppcfeaaGreatDoor

/-
 The reference's levels and texts of a forest. Plain laws.
-/
namespace Go.Proofs.YtpmiamphppcfeaaGreatDoor
open Go
set_option linter.unusedVariables false
set_option linter.unusedSimpArgs false
section
variable {M : Nat} {v : List TApiCell}
theorem CkA.next (hA : CkA M v) {F : Nat} (hF : 3 * M + 3 < F) {p : Int} (h0 : 0 ≤ p) (h1 : p ≤ v.length) : rNext F v p = some (nxt v p) := by
 have hM := hA.hM; have hvM := hA.hv
 exact rNext_eq (hA.rf (Nat.lt_succ_self M)) (fun c hc => (hA.hc c hc).2.2) (v.length - p.toNat) F p h0 h1 rfl (by omega)
end
end Go.Proofs.YtpmiamphppcfeaaGreatDoor

/-
 The reference's text of a forest. Plain laws.
-/
namespace Go.Proofs.YtpmiamphppcfeaaGreatDoor
open Go
set_option linter.unusedVariables false
set_option linter.unusedSimpArgs false
theorem oute_go {R V : Type} (K : V → Option R) (v : V) : oute K (.go v) = K v := rfl
theorem oute_ret {R V : Type} (K : V → Option R) (r : R) : oute K (.ret r) = some r := rfl
section
variable {M : Nat} {v : List TApiCell}
end
end Go.Proofs.YtpmiamphppcfeaaGreatDoor

/-
 The reference's text of a whole value; its check. Plain laws.
-/
namespace Go.Proofs.YtpmiamphppcfeaaGreatDoor
open Go
set_option linter.unusedVariables false
set_option linter.unusedSimpArgs false
section
variable {M : Nat} {v : List TApiCell}
theorem ov_some {α : Type} [Inhabited α] (a : α) : ov (some a) = a := rfl
end
end Go.Proofs.YtpmiamphppcfeaaGreatDoor

/-
 value.Encode writes the text of a value. Plain laws.
-/
namespace Go.Proofs.YtpmiamphppcfeaaGreatDoor
open Go
set_option linter.unusedVariables false
set_option linter.unusedSimpArgs false
section
variable {M : Nat}
end
end Go.Proofs.YtpmiamphppcfeaaGreatDoor

/-
 value.Encode is the reference's. Plain laws.
-/
namespace Go.Proofs.YtpmiamphppcfeaaGreatDoor
open Go
set_option linter.unusedVariables false
set_option linter.unusedSimpArgs false
section
variable {M : Nat}
end
end Go.Proofs.YtpmiamphppcfeaaGreatDoor

/-
 Small functions of the laws of the package value. Plain laws.
-/
namespace Go.Proofs.YtpmiamphppcfeaaGreatDoor
open Go
set_option linter.unusedVariables false
set_option linter.unusedSimpArgs false
def smallV (v : List TApiCell) : Bool := !decide (300 < v.length) && v.all fun c => !decide (300 < c.fStr.length)
def okCell (c : TApiCell) : Bool := inK .i64 c.fKind && inK .i64 c.fInt && okS c.fStr && inK .i64 c.fN
theorem CkA.of {v : List TApiCell} (hs : smallV v = true) (hc : v.all okCell = true) : CkA 300 v := by
 unfold smallV at hs
 simp only [Bool.and_eq_true, Bool.not_eq_true', decide_eq_false_iff_not, List.all_eq_true] at hs hc
 refine ⟨by decide, by omega, fun c h => ?_⟩
 obtain h1 := hs.2 c h
 obtain h2 := hc c h
 unfold okCell at h2
 simp only [Bool.and_eq_true] at h2
 exact ⟨by omega, h2.1.1.2, (inK_i64 h2.2).2⟩
theorem imp_tt (a : Bool) : imp a true = true := by cases a <;> rfl
end Go.Proofs.YtpmiamphppcfeaaGreatDoor

/-
 What laws on value and its reference lean on. Plain laws.
-/
namespace Go.Proofs.YtpmiamphppcfeaaGreatDoor
open Go
set_option linter.unusedVariables false
set_option linter.unusedSimpArgs false
section
variable {M : Nat}
end
end Go.Proofs.YtpmiamphppcfeaaGreatDoor

/-
 Frames: fields packed into bytes and unpacked; program and reference alike. Plain laws.
-/
namespace Go.Proofs.YtpmiamphppcfeaaGreatDoor
open Go
set_option linter.unusedVariables false
set_option linter.unusedSimpArgs false
/-! ### Unpacked -/
/-! ### Round trips -/
end Go.Proofs.YtpmiamphppcfeaaGreatDoor

/-
 Texts of values: a plain reader of bytes. Plain definitions and laws.
-/
namespace Go.Proofs.YtpmiamphppcfeaaGreatDoor
open Go
set_option linter.unusedVariables false
set_option linter.unusedSimpArgs false
def pre : Str → Str → Option Str
 | [], s => some s
 | c :: w, d :: s => bif decide (c = d) then pre w s else none
 | _ :: _, [] => none
end Go.Proofs.YtpmiamphppcfeaaGreatDoor

/-
 The plain reader of bytes: what it leaves is shorter; numbers. Plain laws.
-/
namespace Go.Proofs.YtpmiamphppcfeaaGreatDoor
open Go
set_option linter.unusedVariables false
set_option linter.unusedSimpArgs false
/-! ### numbers -/
end Go.Proofs.YtpmiamphppcfeaaGreatDoor

/-
 value's reader: words, strings, integers, told by the plain reader of bytes. Plain laws.
-/
namespace Go.Proofs.YtpmiamphppcfeaaGreatDoor
open Go
set_option linter.unusedVariables false
set_option linter.unusedSimpArgs false
def Suf (u S : Str) : Prop := ∃ p, S = p ++ u
theorem Suf.len {u S : Str} (h : Suf u S) : u.length ≤ S.length := by obtain ⟨p, rfl⟩ := h; simp
theorem Suf.tail {c : UInt8} {r S : Str} (h : Suf (c :: r) S) : Suf r S := by obtain ⟨p, rfl⟩ := h; exact ⟨p ++ [c], by simp⟩
theorem Suf.drop {u S : Str} (h : Suf u S) : S.drop (Int.toNat ((S.length : Int) - u.length)) = u := by
 obtain ⟨p, rfl⟩ := h
 rw [show Int.toNat (((p ++ u).length : Int) - u.length) = p.length from by rw [List.length_append]; omega, List.drop_left]
end Go.Proofs.YtpmiamphppcfeaaGreatDoor

/-
 value's reader: integers and scalars. Plain laws.
-/
namespace Go.Proofs.YtpmiamphppcfeaaGreatDoor
open Go
set_option linter.unusedVariables false
set_option linter.unusedSimpArgs false
end Go.Proofs.YtpmiamphppcfeaaGreatDoor

/-
 value's reader of values, told by the plain reader of bytes. Plain laws.
-/
namespace Go.Proofs.YtpmiamphppcfeaaGreatDoor
open Go
set_option linter.unusedVariables false
set_option linter.unusedSimpArgs false
end Go.Proofs.YtpmiamphppcfeaaGreatDoor

/-
 value's reader of values does what the plain reader of bytes does. Plain laws.
-/
namespace Go.Proofs.YtpmiamphppcfeaaGreatDoor
open Go
set_option linter.unusedVariables false
set_option linter.unusedSimpArgs false
end Go.Proofs.YtpmiamphppcfeaaGreatDoor

/-
 The reference's reader: words, strings, integers, told by the plain reader of bytes. Plain laws.
-/
namespace Go.Proofs.YtpmiamphppcfeaaGreatDoor
open Go
set_option linter.unusedVariables false
set_option linter.unusedSimpArgs false
/-! ### integers -/
end Go.Proofs.YtpmiamphppcfeaaGreatDoor

/-
 The reference's reader of values does what the plain reader of bytes does. Plain laws.
-/
namespace Go.Proofs.YtpmiamphppcfeaaGreatDoor
open Go
set_option linter.unusedVariables false
set_option linter.unusedSimpArgs false
def hd (m : Bool) (N : Int) : TApiCell := ⟨bif m then 6 else 5, 0, [], N⟩
end Go.Proofs.YtpmiamphppcfeaaGreatDoor

/-
 The reference's reader of values: all of it. Plain laws.
-/
namespace Go.Proofs.YtpmiamphppcfeaaGreatDoor
open Go
set_option linter.unusedVariables false
set_option linter.unusedSimpArgs false
end Go.Proofs.YtpmiamphppcfeaaGreatDoor

/-
 The two ways to read: what is read strictly is what is well-formed. Plain laws.
-/
namespace Go.Proofs.YtpmiamphppcfeaaGreatDoor
open Go
set_option linter.unusedVariables false
set_option linter.unusedSimpArgs false
def plr (c : TApiCell) : Bool := bif decide (c.fKind = 4) then decide (c.fInt = 0) && decide (c.fN = 0) else pl c
def Fo.rw : Bool → Fo → Bool
 | _, .nil => true
 | m, .cell k c r => (k.isSome == m) && plr c && !decide (0 < c.fN) && r.rw m
 | m, .node k c kids r => (k.isSome == m) && plr c && decide (0 < c.fN) && decide (c.fN = kids.cnt) && kids.rw (decide (c.fKind = 6)) && r.rw m
end Go.Proofs.YtpmiamphppcfeaaGreatDoor

/-
 Decode of any string: value's is the reference's. Plain laws.
-/
namespace Go.Proofs.YtpmiamphppcfeaaGreatDoor
open Go
set_option linter.unusedVariables false
set_option linter.unusedSimpArgs false
def cellB (K : Nat) (c : TApiCell) : Prop := c.fStr.length ≤ K ∧ inK .i64 c.fInt = true ∧ c.fN ≤ (K : Int)
theorem cellB.mono {K K' : Nat} {c : TApiCell} (h : cellB K c) (hk : K ≤ K') : cellB K' c := ⟨by have := h.1; omega, h.2.1, by have := h.2.2; omega⟩
end Go.Proofs.YtpmiamphppcfeaaGreatDoor

/-
 Numbers and strings: their texts, read again, and what was read, written again. Plain laws.
-/
namespace Go.Proofs.YtpmiamphppcfeaaGreatDoor
open Go
set_option linter.unusedVariables false
set_option linter.unusedSimpArgs false
end Go.Proofs.YtpmiamphppcfeaaGreatDoor

/-
 A number that was read is written as it stood. Plain laws.
-/
namespace Go.Proofs.YtpmiamphppcfeaaGreatDoor
open Go
set_option linter.unusedVariables false
set_option linter.unusedSimpArgs false
end Go.Proofs.YtpmiamphppcfeaaGreatDoor

/-
 The text of a value is read as the value; what was read is written as it was. Plain laws.
-/
namespace Go.Proofs.YtpmiamphppcfeaaGreatDoor
open Go
set_option linter.unusedVariables false
set_option linter.unusedSimpArgs false
end Go.Proofs.YtpmiamphppcfeaaGreatDoor

/-
 Texts of values read and written again; cells compared. Plain laws (for seats that lack the rest of the package value).
-/
namespace Go.Proofs.YtpmiamphppcfeaaGreatDoor
open Go Go.RowKit
set_option linter.unusedVariables false
set_option linter.unusedSimpArgs false
theorem take_eq_len {α : Type} {a b : List α} {n : Nat} (h : a.take n = b.take n) (h1 : a.length ≤ n) (h2 : b.length ≤ n) : a = b := by
 rw [List.take_of_length_le h1, List.take_of_length_le h2] at h; exact h
theorem slEqual_eq {F : Nat} {a b : List TApiCell} (hF : a.length < F) (hv : a.length ≤ 1152921504606846976) : slEqual F a b = some (decide (a = b)) := by
 unfold slEqual
 by_cases hl : (a.length : Int) = (b.length : Int)
 ·rw [cnd_ff (by simp [hl])]
  obtain ⟨o, h1, h2⟩ := lop_ind (body := fun σ => slEqual_b1 a b σ) (fun x => 0 ≤ x ∧ x ≤ (a.length : Int) ∧ a.take x.toNat = b.take x.toNat) (fun x => a.length - x.toNat) (fun o => oute (fun _ => slEqual_k1) o = some (decide (a = b))) (fun x ⟨h0, hx, ht⟩ => by
   by_cases h : x < (a.length : Int)
   ·have hb : x < (b.length : Int) := by omega
    obtain ⟨c, hc⟩ : ∃ c, a[x.toNat]? = some c := ⟨a[x.toNat]'(by omega), List.getElem?_eq_getElem (by omega)⟩
    obtain ⟨d, hd⟩ : ∃ d, b[x.toNat]? = some d := ⟨b[x.toNat]'(by omega), List.getElem?_eq_getElem (by omega)⟩
    have ac : at' a x = c := by simp [at', hc]
    have bd : at' b x = d := by simp [at', hd]
    have heq : (decide (c.fKind = d.fKind) && decide (c.fInt = d.fInt) && decide (c.fStr = d.fStr) && decide (c.fN = d.fN)) = decide (c = d) := by
     cases c; cases d
     rw [Bool.eq_iff_iff]
     simp only [TApiCell.mk.injEq, Bool.and_eq_true, decide_eq_true_eq]
     constructor
     ·rintro ⟨⟨⟨h1, h2⟩, h3⟩, h4⟩; exact ⟨h1, h2, h3, h4⟩
     ·rintro ⟨h1, h2, h3, h4⟩; exact ⟨⟨⟨h1, h2⟩, h3⟩, h4⟩
    have hb1 : slEqual_b1 a b x = cnd (!decide (c = d)) (some (.out (.ret false))) (some (.next (x + 1))) := by
     unfold slEqual_b1
     rw [cnd_tt (decide_eq_true h), chk_inR h0 h, chk_inR h0 hb, ac, bd, heq, chk_i64 (by omega) (by omega)]
    by_cases hcd : c = d
    ·refine .inl ⟨x + 1, hb1.trans (by rw [cnd_ff (by simp [hcd])]), ⟨by omega, by omega, ?_⟩, by omega⟩
     rw [show (x + 1).toNat = x.toNat + 1 from by omega, List.take_add_one, List.take_add_one, ht, hc, hd, hcd]
    ·refine .inr ⟨.ret false, hb1.trans (by rw [cnd_tt (by simp [hcd])]), ?_⟩
     rw [oute_ret, decide_eq_false]
     intro e; subst e; rw [hc] at hd; cases hd; exact hcd rfl
   ·refine .inr ⟨.go (), by unfold slEqual_b1; rw [cnd_ff (decide_eq_false h)], ?_⟩
    rw [oute_go, decide_eq_true (take_eq_len ht (by omega) (by omega))]; rfl) F 0 ⟨Int.le_refl 0, by omega, rfl⟩ (by show a.length - 0 < F; omega)
  rw [obn_s h1, h2]
 ·rw [cnd_tt (by simp [hl]), decide_eq_false]
  intro e; subst e; exact hl rfl
theorem rSame_eq {F : Nat} {a b : List TApiCell} (hF : a.length < F) (hv : a.length ≤ 1152921504606846976) : rSame F a b = some (decide (a = b)) := (show rSame F a b = slEqual F a b from rfl).trans (slEqual_eq hF hv)
section
variable {M : Nat} {v : List TApiCell}
end
end Go.Proofs.YtpmiamphppcfeaaGreatDoor

/-
 Events: Check, Encode and Decode of the package and of its reference. Plain laws.
-/
namespace Go.Proofs.YtpmiamphppcfeaaGreatDoor
open Go
set_option linter.unusedVariables false
set_option linter.unusedSimpArgs false
structure EvA (M : Nat) (e : TApiEvent) : Prop where
 hb : CkA M e.fBody
 h1 : e.fID.length ≤ 1000000
 h2 : e.fTenant.length ≤ 1000000
 h3 : e.fSource.length ≤ 1000000
 h4 : e.fKey.length ≤ 1000000
 h5 : e.fCause.length ≤ 1000000
 h6 : -9223372036854775808 ≤ e.fAt ∧ e.fAt ≤ 9223372036854775807
theorem imp_c (a : Bool) {b : Bool} (h : b = true) : imp a b = true := by subst h; exact imp_tt a
/-! ### Decode -/
/-! ### Same -/
theorem same_ev (a b : TApiEvent) : ((decide (a.fID = b.fID)) && ((decide (a.fTenant = b.fTenant)) && ((decide (a.fSource = b.fSource)) && ((decide (a.fKey = b.fKey)) && ((decide (a.fAt = b.fAt)) && ((decide (a.fCause = b.fCause)) && decide (a.fBody = b.fBody))))))) = decide (a = b) := by
 obtain ⟨a1, a2, a3, a4, a5, a6, a7⟩ := a
 obtain ⟨b1, b2, b3, b4, b5, b6, b7⟩ := b
 rw [Bool.eq_iff_iff]
 simp only [TApiEvent.mk.injEq, Bool.and_eq_true, decide_eq_true_eq]
theorem rSameE_eq {a b : TApiEvent} (ha : a.fBody.length < 20000) : rSameE 20000 a b = some (decide (a = b)) := by
 unfold rSameE
 rw [rSame_eq ha (by omega)]
 simp only [Option.isSome_some]
 rw [chk_t (imp_c _ (imp_c _ (imp_c _ (imp_c _ (imp_c _ (imp_c _ rfl)))))), ov_some, same_ev]
theorem eSame_eq {a b : TApiEvent} (ha : a.fBody.length < 20000) : eSame 20000 a b = some (decide (a = b)) := by
 unfold eSame
 rw [slEqual_eq ha (by omega)]
 simp only [Option.isSome_some]
 rw [chk_t (imp_c _ (imp_c _ (imp_c _ (imp_c _ (imp_c _ (imp_c _ rfl)))))), ov_some, same_ev]
theorem evAwake_ok : evAwake 20000 = some true := by decide +kernel
end Go.Proofs.YtpmiamphppcfeaaGreatDoor

/-
 Events: sizes, children, orders and lineages, of the package and of its reference. Plain laws.
-/
namespace Go.Proofs.YtpmiamphppcfeaaGreatDoor
open Go
set_option linter.unusedVariables false
set_option linter.unusedSimpArgs false
/-! ### Sizes -/
def smallB (v : List TApiCell) : Bool := !decide (250 < v.length) && v.all fun c => !decide (250 < c.fStr.length)
theorem evBody_eq {F : Nat} {v : List TApiCell} (hF : 250 < F) : evBody F v = some (smallB v) := by
 unfold evBody smallB
 have a1 : decide ((250 : Int) < (v.length : Int)) = decide (250 < v.length) := by rw [Bool.eq_iff_iff]; simp; omega
 rw [a1]
 cases hl : decide (250 < v.length) with
 | true => rfl
 | false =>
  simp only [decide_eq_false_iff_not] at hl
  rw [cnd_ff rfl]
  obtain ⟨o, h1, h2⟩ := lop_ind (body := fun σ => evBody_b1 v σ) (fun x => 0 ≤ x ∧ x ≤ (v.length : Int) ∧ (v.take x.toNat).all (fun c => !decide (250 < c.fStr.length)) = true) (fun x => v.length - x.toNat)
   (fun o => oute (fun _ => evBody_k1) o = some (v.all fun c => !decide (250 < c.fStr.length))) (fun x ⟨h0, hlx, ha⟩ => by
    by_cases hx : x < (v.length : Int)
    ·obtain ⟨c, hc⟩ : ∃ c, v[x.toNat]? = some c := ⟨v[x.toNat]'(by omega), List.getElem?_eq_getElem (by omega)⟩
     have hat : at' v x = c := by simp [at', hc]
     have a2 : decide ((250 : Int) < (c.fStr.length : Int)) = decide (250 < c.fStr.length) := by rw [Bool.eq_iff_iff]; simp; omega
     have hb : evBody_b1 v x = cnd (decide (250 < c.fStr.length)) (some (.out (.ret false))) (some (.next (x + 1))) := by
      unfold evBody_b1
      rw [cnd_tt (decide_eq_true hx), chk_inR h0 hx, hat, a2, chk_i64 (by omega) (by omega)]
     cases hq : decide (250 < c.fStr.length) with
     | true =>
      refine .inr ⟨.ret false, hb.trans (cnd_tt hq), ?_⟩
      have : v.all (fun c => !decide (250 < c.fStr.length)) = false := all_false_of hc (by simp only [hq]; rfl)
      rw [oute_ret, this]
     | false =>
      have a3 : (v.take (x + 1).toNat).all (fun c => !decide (250 < c.fStr.length)) = true := by
       rw [show (x + 1).toNat = x.toNat + 1 from by omega, take_all_succ hc, ha]; simp only [hq]; rfl
      exact .inl ⟨x + 1, hb.trans (cnd_ff hq), ⟨by omega, by omega, a3⟩, by omega⟩
    ·refine .inr ⟨.go (), by unfold evBody_b1; rw [cnd_ff (decide_eq_false hx)], ?_⟩
     rw [show x.toNat = v.length from by omega, List.take_length] at ha
     rw [oute_go, ha]; rfl) F 0 ⟨Int.le_refl 0, by omega, by simp⟩ (by show v.length - 0 < F; omega)
  rw [obn_s h1, h2]; rfl
def shortE (e : TApiEvent) : Bool := !(decide (100 < e.fID.length) || (decide (100 < e.fTenant.length) || (decide (100 < e.fSource.length) || (decide (100 < e.fKey.length) || decide (100 < e.fCause.length)))))
def smallE (e : TApiEvent) : Bool := shortE e && smallB e.fBody
theorem dec100 (f : Str) : decide ((100 : Int) < (f.length : Int)) = decide (100 < f.length) := by rw [Bool.eq_iff_iff]; simp; omega
theorem evSmall_eq {F : Nat} {e : TApiEvent} (hF : 250 < F) : evSmall F e = some (smallE e) := by
 unfold evSmall smallE
 rw [evBody_eq hF, dec100, dec100, dec100, dec100, dec100]
 unfold shortE
 cases (decide (100 < e.fID.length) || (decide (100 < e.fTenant.length) || (decide (100 < e.fSource.length) || (decide (100 < e.fKey.length) || decide (100 < e.fCause.length))))) <;> rfl
theorem CkA.ofB {v : List TApiCell} (hs : smallB v = true) (hc : v.all okCell = true) : CkA 250 v := by
 unfold smallB at hs
 simp only [Bool.and_eq_true, Bool.not_eq_true', decide_eq_false_iff_not, List.all_eq_true] at hs hc
 refine ⟨by decide, by omega, fun c h => ?_⟩
 obtain h1 := hs.2 c h
 obtain h2 := hc c h
 unfold okCell at h2
 simp only [Bool.and_eq_true] at h2
 exact ⟨by omega, h2.1.1.2, (inK_i64 h2.2).2⟩
def okEv (y : TApiEvent) : Bool := okS y.fID && okS y.fTenant && okS y.fSource && okS y.fKey && (inK .i64) y.fAt && okS y.fCause && (fun ys : (List TApiCell) => ys.all okCell && decide (ys.length ≤ 9223372036854775807)) y.fBody
theorem EvA.of {e : TApiEvent} (hs : smallE e = true) (ho : okEv e = true) : EvA 250 e := by
 unfold smallE shortE at hs
 unfold okEv at ho
 simp only [Bool.and_eq_true, Bool.not_eq_true', Bool.or_eq_false_iff, decide_eq_false_iff_not] at hs ho
 obtain ⟨⟨a1, a2, a3, a4, a5⟩, a6⟩ := hs
 exact ⟨CkA.ofB a6 ho.2.1, by omega, by omega, by omega, by omega, by omega, inK_i64 ho.1.1.2⟩
/-! ### Children -/
section
variable {M : Nat} {e : TApiEvent} {n : Int} {source : Str} {body : List TApiCell} {at_ : Int}
end
/-! ### The order -/
theorem cmpBy : ∀ a b : Str, Op.bytesLess a b = decide (Lib.compareBytes a b = -1) ∧ (decide (a = b) = decide (Lib.compareBytes a b = 0)) ∧ (Lib.compareBytes a b = -1 ∨ Lib.compareBytes a b = 0 ∨ Lib.compareBytes a b = 1) := by
 intro a
 induction a with
 | nil => intro b; cases b <;> simp [Lib.compareBytes, Op.bytesLess]
 | cons x a ih =>
  intro b
  cases b with
  | nil => simp [Lib.compareBytes, Op.bytesLess]
  | cons y b =>
   obtain ⟨h1, h2, h3⟩ := ih b
   simp only [Lib.compareBytes, Op.bytesLess]
   rw [h1]
   by_cases h : x < y
   ·have hne : x ≠ y := fun e => by subst e; exact absurd h (by simp)
    simp [h, hne]
   ·by_cases h' : y < x
    ·have hne : x ≠ y := fun e => by subst e; exact absurd h' (by simp)
     simp [h, h', hne]
    ·have he : x = y := UInt8.le_antisymm (UInt8.not_lt.1 h') (UInt8.not_lt.1 h)
     subst he
     simp only [h, if_false, List.cons.injEq, true_and]
     refine ⟨?_, h2, h3⟩
     simp
def cmpE (a b : TApiEvent) : Int := bif decide (a.fAt < b.fAt) then -1 else bif decide (b.fAt < a.fAt) then 1 else Lib.compareBytes a.fID b.fID
theorem eCmp_eq (a b : TApiEvent) : eCmp a b = some (cmpE a b) := by
 unfold eCmp cmpE
 cases decide (a.fAt < b.fAt) <;> cases decide (b.fAt < a.fAt) <;> rfl
theorem rCmpE_eq (a b : TApiEvent) : rCmpE a b = some (cmpE a b) := by
 obtain ⟨h1, h2, h3⟩ := cmpBy a.fID b.fID
 unfold rCmpE cmpE sLess
 rw [h1, h2]
 by_cases hl : a.fAt < b.fAt
 ·rw [decide_eq_true hl]; rfl
 ·by_cases hg : b.fAt < a.fAt
  ·rw [decide_eq_false hl, decide_eq_true hg, decide_eq_false (show ¬ a.fAt = b.fAt by omega)]; rfl
  ·rw [decide_eq_false hl, decide_eq_false hg, decide_eq_true (show a.fAt = b.fAt by omega)]
   rcases h3 with h | h | h <;> rw [h] <;> rfl
/-! ### Lineages -/
end Go.Proofs.YtpmiamphppcfeaaGreatDoor

/-
 The plain law of EventCompares: for all arguments whose numbers fit.
-/
namespace Go.Proofs.YtpmiamphppcfeaaGreatDoor
open Go
set_option linter.unusedVariables false
set_option linter.unusedSimpArgs false
theorem lEvCompares_law {a b : TApiEvent} (ha : okEv a = true) (hb : okEv b = true) : lEvCompares 20000 a b = some true := by
 unfold lEvCompares
 rw [evAwake_ok, evSmall_eq (by decide), evSmall_eq (by decide)]
 simp only [Option.isSome_some, imp_tt, chk_t, ov_some]
 cases h1 : smallE a with
 | false => rw [cnd_tt (by simp), obn_s rfl]
 | true =>
 cases h2 : smallE b with
 | false => rw [cnd_tt (by simp), obn_s rfl]
 | true =>
  have hA := EvA.of h1 ha
  have := hA.hb.hv
  rw [cnd_ff (by simp), eSame_eq (by omega), rSameE_eq (by omega), eCmp_eq, rCmpE_eq]
  simp only [Option.isSome_some, imp_tt, chk_t, ov_some, decide_true, beq_self_eq_true, Bool.and_self]
end Go.Proofs.YtpmiamphppcfeaaGreatDoor
namespace Go.Proofs.YtpmiamphppcfeaaGreatDoor.lawEventCompares
open Go
set_option linter.unusedVariables false
theorem law : Law := fun a b ha hb => ⟨20000, lEvCompares_law ha hb⟩
end Go.Proofs.YtpmiamphppcfeaaGreatDoor.lawEventCompares
