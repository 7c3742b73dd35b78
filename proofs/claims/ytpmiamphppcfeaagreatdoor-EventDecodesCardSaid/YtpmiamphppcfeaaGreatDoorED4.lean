/-
  Texts of the proof, put together: WVd, PVe, WVe, PVf, WVf, PH, PFr, QH, QY, QU, QW, QT, QJ.
-/
import Derived.Test.YtpmiamphppcfeaaGreatDoorED3
import Derived.Laws.StructEq
import GoSem.Op.IntBits
import GoSem.Op.Shift
import Derived.Laws.Cover3
import Derived.ScopeJumps
import Derived.Laws.CopyRow
import Derived.Laws.IdiomCopy
import Derived.Laws.OwnMore
/-
  Walks, printed by a small program of ours (gq.py).
-/
namespace Go.Proofs.YtpmiamphppcfeaaGreatDoor.Q
open Go Go.RowKit
set_option linter.unusedVariables false
set_option linter.unusedSimpArgs false
set_option maxRecDepth 100000
set_option maxHeartbeats 4000000
theorem info51 : ∃ inf, Tryz.prog.info? 51 = some inf ∧ inf.zero = some (.agg #[(.int .i64 0), (.int .i64 0), (.string ⟨#[]⟩), (.int .i64 0)]) ∧ inf.size = 4 ∧ inf.bytes = 40 := by
  have key : (Tryz.prog.info? 51).map (fun i => (i.zero, i.size, i.bytes)) = some (some (.agg #[(.int .i64 0), (.int .i64 0), (.string ⟨#[]⟩), (.int .i64 0)]), 4, 40) := by kernel_rfl
  obtain ⟨inf, h1, h2⟩ := Option.map_eq_some_iff.1 key
  simp only [Prod.mk.injEq] at h2
  exact ⟨inf, h1, h2.1, h2.2.1, h2.2.2⟩
theorem built51 (parts : List (Nat × Value)) : Tryz.prog.built 51 parts = Instr.fill (fun i => (#[(0, 1), (1, 1), (2, 1), (3, 1)] : Array (Nat × Nat))[i]?) #[(.int .i64 0), (.int .i64 0), (.string ⟨#[]⟩), (.int .i64 0)] parts := by kernel_rfl
theorem o_build51_0 {n : Nat} {c : Cx} {l : Fr} {H : List Ent} {d : Option Nat} {ty : TypeId} {pos : String} {af : Array Edge} {g : Option (Nat × Bool)} {x0 : Operand} {r0 : Rp} (h0 : ev l x0 = some r0) (u0 : r0.one = true) : ORun Tryz.prog n c l H { dst := d, op := .build 51 #[(0, x0)], type := ty, pos := pos, after := af, guard := g } (rAgg [r0, rI .i64 0, rS ([] : Str), rI .i64 0]) := fun a w Z ha _ => by
  have p0 := ha.ev h0
  have c0 := cells_one (r0.hone u0 Z _ p0)
  have hb : Tryz.prog.built 51 [(0, a.eval x0)] = some #[a.eval x0, (.int .i64 0), (.string ⟨#[]⟩), (.int .i64 0)] := by
    rw [built51]
    generalize a.eval x0 = v0 at *
    simp [Instr.fill, c0]
  refine ⟨.agg #[a.eval x0, (.int .i64 0), (.string ⟨#[]⟩), (.int .i64 0)], ⟨[a.eval x0, (.int .i64 0), (.string ⟨#[]⟩), (.int .i64 0)], rfl, p0, rfl, rfl, rfl, trivial⟩, ?_⟩
  have := run_build w 51 #[(0, a.eval x0)] _ (by simpa using hb)
  simp [execOp, this]
theorem o_build51_0_1 {n : Nat} {c : Cx} {l : Fr} {H : List Ent} {d : Option Nat} {ty : TypeId} {pos : String} {af : Array Edge} {g : Option (Nat × Bool)} {x0 : Operand} {r0 : Rp} (h0 : ev l x0 = some r0) (u0 : r0.one = true) {x1 : Operand} {r1 : Rp} (h1 : ev l x1 = some r1) (u1 : r1.one = true) : ORun Tryz.prog n c l H { dst := d, op := .build 51 #[(0, x0), (1, x1)], type := ty, pos := pos, after := af, guard := g } (rAgg [r0, r1, rS ([] : Str), rI .i64 0]) := fun a w Z ha _ => by
  have p0 := ha.ev h0
  have c0 := cells_one (r0.hone u0 Z _ p0)
  have p1 := ha.ev h1
  have c1 := cells_one (r1.hone u1 Z _ p1)
  have hb : Tryz.prog.built 51 [(0, a.eval x0), (1, a.eval x1)] = some #[a.eval x0, a.eval x1, (.string ⟨#[]⟩), (.int .i64 0)] := by
    rw [built51]
    generalize a.eval x0 = v0 at *
    generalize a.eval x1 = v1 at *
    simp [Instr.fill, c0, c1]
  refine ⟨.agg #[a.eval x0, a.eval x1, (.string ⟨#[]⟩), (.int .i64 0)], ⟨[a.eval x0, a.eval x1, (.string ⟨#[]⟩), (.int .i64 0)], rfl, p0, p1, rfl, rfl, trivial⟩, ?_⟩
  have := run_build w 51 #[(0, a.eval x0), (1, a.eval x1)] _ (by simpa using hb)
  simp [execOp, this]
theorem o_build51_0_2 {n : Nat} {c : Cx} {l : Fr} {H : List Ent} {d : Option Nat} {ty : TypeId} {pos : String} {af : Array Edge} {g : Option (Nat × Bool)} {x0 : Operand} {r0 : Rp} (h0 : ev l x0 = some r0) (u0 : r0.one = true) {x2 : Operand} {r2 : Rp} (h2 : ev l x2 = some r2) (u2 : r2.one = true) : ORun Tryz.prog n c l H { dst := d, op := .build 51 #[(0, x0), (2, x2)], type := ty, pos := pos, after := af, guard := g } (rAgg [r0, rI .i64 0, r2, rI .i64 0]) := fun a w Z ha _ => by
  have p0 := ha.ev h0
  have c0 := cells_one (r0.hone u0 Z _ p0)
  have p2 := ha.ev h2
  have c2 := cells_one (r2.hone u2 Z _ p2)
  have hb : Tryz.prog.built 51 [(0, a.eval x0), (2, a.eval x2)] = some #[a.eval x0, (.int .i64 0), a.eval x2, (.int .i64 0)] := by
    rw [built51]
    generalize a.eval x0 = v0 at *
    generalize a.eval x2 = v2 at *
    simp [Instr.fill, c0, c2]
  refine ⟨.agg #[a.eval x0, (.int .i64 0), a.eval x2, (.int .i64 0)], ⟨[a.eval x0, (.int .i64 0), a.eval x2, (.int .i64 0)], rfl, p0, rfl, p2, rfl, trivial⟩, ?_⟩
  have := run_build w 51 #[(0, a.eval x0), (2, a.eval x2)] _ (by simpa using hb)
  simp [execOp, this]
theorem built72 (parts : List (Nat × Value)) : Tryz.prog.built 72 parts = Instr.fill (fun i => (#[(0, 1), (1, 1), (2, 1), (3, 1)] : Array (Nat × Nat))[i]?) #[(.string ⟨#[]⟩), (.int .i64 0), ((.slice none 0 0)), (.bool false)] parts := by kernel_rfl
theorem o_build72_0 {n : Nat} {c : Cx} {l : Fr} {H : List Ent} {d : Option Nat} {ty : TypeId} {pos : String} {af : Array Edge} {g : Option (Nat × Bool)} {x0 : Operand} {r0 : Rp} (h0 : ev l x0 = some r0) (u0 : r0.one = true) : ORun Tryz.prog n c l H { dst := d, op := .build 72 #[(0, x0)], type := ty, pos := pos, after := af, guard := g } (rAgg [r0, rI .i64 0, rv (.slice none 0 0), rB false]) := fun a w Z ha _ => by
  have p0 := ha.ev h0
  have c0 := cells_one (r0.hone u0 Z _ p0)
  have hb : Tryz.prog.built 72 [(0, a.eval x0)] = some #[a.eval x0, (.int .i64 0), ((.slice none 0 0)), (.bool false)] := by
    rw [built72]
    generalize a.eval x0 = v0 at *
    simp [Instr.fill, c0]
  refine ⟨.agg #[a.eval x0, (.int .i64 0), ((.slice none 0 0)), (.bool false)], ⟨[a.eval x0, (.int .i64 0), ((.slice none 0 0)), (.bool false)], rfl, p0, rfl, rfl, rfl, trivial⟩, ?_⟩
  have := run_build w 72 #[(0, a.eval x0)] _ (by simpa using hb)
  simp [execOp, this]
theorem slHasPrefix_w (s : Str) (p : Str) (r : Bool) (h : slHasPrefix s p = some r) : Fn Tryz.prog GE 130 [rS s, rS p] [] (fun R H => R = rB r ∧ H = []) := by
 refine enter (n := 18) Tryz.func130 rfl Tryz.ntmps130 rfl (fun w Z => ?_)
 unfold slHasPrefix at h
 refine wc_sr (wa rfl (wl_x (ck h fun g1 h2 => wc_seq_mid [(4, rB ((decide ((p.length : Int) ≤ (s.length : Int))) && (decide ((List.take (Int.toNat (p.length : Int)) s) = p))))] [] ?_ ?_)))
 ·refine wc_region (wm rfl (wv (o_len_s yu9 rfl) (wm rfl (wv (o_len_s yu9 rfl) (wv (o_ge rfl rfl) (wm rfl (bsplit (decide ((p.length : Int) ≤ (s.length : Int))) (fun c3 => ?_) (fun c3 => ?_))))))))
  ·refine wo c3 (wm rfl (wo c3 (wm rfl (wo c3 (wv (o_len_s yu9 rfl) (wo c3 (wv (o_slice_hi yu9 rfl rfl (imp_t g1 c3)) (wo c3 (wm rfl (wo c3 (wv (o_seq rfl rfl) (wpt rfl c3 rfl (wa rfl (wl_nil ?_))))))))))))))
   exact wtc c3
  ·refine wf c3 (wf c3 (wf c3 (wf c3 (wf c3 (wf c3 (wv (r := rB false) (o_pick_f rfl c3 rfl) (wa rfl (wl_nil ?_))))))))
   exact wtc c3
 refine wc_ret ?_
 obtain rfl := some_e h2
 exact wk_ret (r_1 Tryz.results130 (rv_t rfl)) sN ⟨rfl, rfl⟩

theorem hasPrefix_w (s : Str) (p : Str) (r : Bool) (h : hasPrefix s p = some r) : Fn Tryz.prog GE 105 [rS s, rS p] [] (fun R H => R = rB r ∧ H = []) := by
 refine enter (n := 8) Tryz.func105 rfl Tryz.ntmps105 rfl (fun w Z => ?_)
 unfold hasPrefix at h
 refine wc_sr (wa rfl (wl_y (wm rfl (wm rfl (ob h fun r1 e3 h2 => wc0 Tryz.call130 (slHasPrefix_w s p r1 e3) rfl (wa rfl (wl_x (wc_ret ?_))))))))
 obtain rfl := some_e h2
 exact wk_ret (r_1 Tryz.results105 (rv_t rfl)) sN ⟨rfl, rfl⟩

theorem vTake_w (b_q : Nat) (v_q_2 : Value) (q : TValueReader) (s : Str) (r : Bool × TValueReader) (h : vTake q s = some r) : Fn Tryz.prog GE 80 [rP b_q 0, rS s] [.blk b_q [rS q.fS, rI .i64 q.fAt, rv v_q_2, rB q.fGreat] 72, .row v_q_2 51 4 (List.map eTApiCell q.fCells)] (fun R H => ∃ w0_2 : Value, R = rB r.1 ∧ H = [.blk b_q [rS r.2.fS, rI .i64 r.2.fAt, rv w0_2, rB r.2.fGreat] 72, .row w0_2 51 4 (List.map eTApiCell r.2.fCells)]) := by
 refine enter (n := 26) Tryz.func80 rfl Tryz.ntmps80 rfl (fun w Z => ?_)
 unfold vTake at h
 refine wc_sr (wa rfl (wl_x (wc_seq (wc_seq (ck h fun g1 h2 => ob h2 fun r3 e5 h4 => wc_rdq [0, 1] [⟨[], rP b_q 0, 0⟩, ⟨[0], rP b_q 0, 0⟩, ⟨[1], rP b_q 0, 0⟩, ⟨[2], rS q.fS, 1⟩, ⟨[], rP b_q 0, 0⟩, ⟨[4], rP b_q 0, 0⟩, ⟨[5], rP b_q 1, 0⟩, ⟨[6], rI .i64 q.fAt, 1⟩, ⟨[3, 7], rS (List.drop (Int.toNat q.fAt) q.fS), 0⟩, ⟨[], rS s, 0⟩, ⟨[8, 9], rB r3, 0⟩, ⟨[10], rB (!r3), 0⟩] [16, 0, 1] ?_ ?_)))))
 ·refine oq (o_move rfl) (oq (o_nilcheck rfl) (oq (o_fieldAddr yu72 rfl ys9 rfl rfl) (of (o_load (i := 0) ya9 rfl rfl rfl) (oq (o_move rfl) (oq (o_nilcheck rfl) (oq (o_fieldAddr yu72 rfl ys3 rfl rfl) (of (o_load (i := 0) ya3 rfl rfl rfl) (oq (o_slice_lo yu9 rfl rfl g1) (oq (o_move rfl) (obl_q rfl (fun H => ok_c0 Tryz.call105 (hasPrefix_w (List.drop (Int.toNat q.fAt) q.fS) s r3 e5) rfl) ?_))))))))))
  refine oq (o_not rfl) ?_
  exact obl_e
 refine wk_x (cz h4 rfl (fun c6 h7 => ?_) (fun c6 h8 => ?_))
 ·refine wc_sr (wa rfl (wl_x (wc_ret (wk_then_ret ?_))))
  obtain rfl := some_e h7
  exact wk_ret (r_1 Tryz.results80 (rv_t rfl)) (sC (sC sN)) ⟨v_q_2, rfl, rfl⟩
 ·refine wc_skip (wk_x (wc_sr (wm rfl (wv (o_nilcheck rfl) (vF yu72 rfl ys3 (vL 0 ya3 rfl (wm rfl (wv (o_len_s yu9 rfl) (ck h8 fun g9 h10 => wv (o_add rfl rfl g9) (wv (o_nilcheck rfl) (vF yu72 rfl ys3 (u_store (i := 0) ys3 rfl rfl (one_c rfl) rfl rfl (cs' := [rS q.fS, rI .i64 (q.fAt + (s.length : Int)), rv v_q_2, rB q.fGreat]) rfl (H' := [.blk b_q [rS q.fS, rI .i64 (q.fAt + (s.length : Int)), rv v_q_2, rB q.fGreat] 72, .row v_q_2 51 4 (List.map eTApiCell q.fCells)]) rfl (wl_y (wa rfl (wl_x (wc_ret ?_))))))))))))))))
  obtain rfl := some_e h10
  exact wk_ret (r_1 Tryz.results80 (rv_t rfl)) (sC (sC sN)) ⟨v_q_2, rfl, rfl⟩

theorem vRStr_w (F : Nat) (b_q : Nat) (v_q_2 : Value) (q : TValueReader) (r : Str × Bool × TValueReader) (h : vRStr F q = some r) : Fn Tryz.prog GE 82 [rP b_q 0] [.blk b_q [rS q.fS, rI .i64 q.fAt, rv v_q_2, rB q.fGreat] 72, .row v_q_2 51 4 (List.map eTApiCell q.fCells)] (fun R H => ∃ w0_2 : Value, R = rTup [rS r.1, rB r.2.1] ∧ H = [.blk b_q [rS r.2.2.fS, rI .i64 r.2.2.fAt, rv w0_2, rB r.2.2.fGreat] 72, .row w0_2 51 4 (List.map eTApiCell r.2.2.fCells)]) := by
 refine enter (n := 104) Tryz.func82 rfl Tryz.ntmps82 rfl (fun w Z => ?_)
 unfold vRStr at h
 refine wc_sr (wv (r := rS ([] : Str)) (o_assign rfl) (wa rfl (wl_x (wc_seq (wc_sr (wm rfl (ob h fun r1 e3 h2 => wcl (Hr := []) yk80 (vTake_w b_q v_q_2 q ([34] : Str) r1 e3) rfl (List.Perm.refl _) rfl ?_)))))))
 rintro _ _ ⟨v4, rfl, rfl⟩
 refine wv (o_not rfl) (wl_x (cz h2 rfl (fun c5 h6 => ?_) (fun c5 h7 => ?_)))
 ·refine wc_sr (wv (r := rS ([] : Str)) (o_assign rfl) (wa rfl (wl_x (wc_ret (wk_then_ret ?_)))))
  obtain rfl := some_e h6
  exact wk_ret (r_2 yr82 (rv_t rfl) (rv_t rfl)) (sC (sC sN)) ⟨v4, rfl, rfl⟩
 ·refine wc_skip (wk_x (wc_sr (wa rfl (wl_x (wc_seq (wc_block (WC.nilrow (e := 5) (sz := 1) (wc_perm (H2 := [.blk b_q [rS r1.2.fS, rI .i64 r1.2.fAt, rv v4, rB r1.2.fGreat] 72, .row v4 51 4 (List.map eTApiCell r1.2.fCells), .row (.slice none 0 0     ) 5 1 (List.map eI_u8 ([] : List Int))]) ((perm_front (i := 1) rfl).trans (List.Perm.cons _ ((perm_front (i := 1) rfl).trans (List.Perm.cons _ (List.Perm.refl _))))) (ob h7 fun o426 eo427 hK428 => wc_loop2 (S := Nat × ((List Int) × Int) × (Value)) (V := (Int) × (Unit)) 0 (fun σ => lop (fun σ => vRStr_b1 r1 σ.1 σ.2) σ.1 σ.2.1 = some o426) (fun σ => [(0, rP b_q 0), (4, rv σ.2.2)]) (fun σ => [.blk b_q [rS r1.2.fS, rI .i64 σ.2.1.2, rv v4, rB r1.2.fGreat] 72, .row v4 51 4 (List.map eTApiCell r1.2.fCells), .row σ.2.2 5 1 (List.map eI_u8 σ.2.1.1)]) (fun σ => σ.1) (F, (([] : List Int), r1.2.fAt), (.slice none 0 0     )) eo427 (Sub.c rfl (Sub.c rfl Sub.nil)) (sC (sC (sC sN))) (fun σ => vRStr_k1 r1 σ.1 = some r) (fun σ => []) (fun σ => [.blk b_q [rS r1.2.fS, rI .i64 σ.1, rv v4, rB r1.2.fGreat] 72, .row v4 51 4 (List.map eTApiCell r1.2.fCells)]) ?_ ?_)))))))))
  ·rintro ⟨n434, ⟨x366, x368⟩, v367⟩ hi432
   refine wc_as (l' := [(0, rP b_q 0), (4, rv v367)]) (H' := [.blk b_q [rS r1.2.fS, rI .i64 x368, rv v4, rB r1.2.fGreat] 72, .row v4 51 4 (List.map eTApiCell r1.2.fCells), .row v367 5 1 (List.map eI_u8 x366)]) rfl rfl ?_
   obtain ⟨m431, rfl, t429, h433, ht430⟩ := lop_e hi432
   replace h433 : vRStr_b1 r1 x366 x368 = some t429 := h433
   unfold vRStr_b1 at h433
   refine wc_seq (wc_seq (wc_rdq [0, 4] [⟨[], rP b_q 0, 0⟩, ⟨[0], rP b_q 0, 0⟩, ⟨[1], rP b_q 1, 0⟩, ⟨[2], rI .i64 x368, 1⟩, ⟨[], rP b_q 0, 0⟩, ⟨[4], rP b_q 0, 0⟩, ⟨[5], rP b_q 0, 0⟩, ⟨[6], rS r1.2.fS, 1⟩, ⟨[7], rI .i64 (r1.2.fS.length : Int), 0⟩, ⟨[3, 8], rB (decide (x368 < (r1.2.fS.length : Int))), 0⟩] [9, 10, 11, 12, 13, 14, 15, 16, 17, 18, 0, 4] ?_ ?_))
   ·refine oq (o_move rfl) (oq (o_nilcheck rfl) (oq (o_fieldAddr yu72 rfl ys3 rfl rfl) (of (o_load (i := 0) ya3 rfl rfl rfl) (oq (o_move rfl) (oq (o_nilcheck rfl) (oq (o_fieldAddr yu72 rfl ys9 rfl rfl) (of (o_load (i := 0) ya9 rfl rfl rfl) (oq (o_len_s yu9 rfl) (oq (o_lt rfl rfl) ?_)))))))))
    exact obl_e
   refine wk_x (cz h433 rfl (fun c435 h436 => ?_) (fun c435 h494 => ?_))
   ·refine wc_skip (wk_x (wc_block (wc_seq (ck h436 fun g437 h438 => wc_rdq [0, 4, 9, 10, 11, 12, 13, 14, 15, 16, 17] [⟨[], rP b_q 0, 0⟩, ⟨[0], rP b_q 0, 0⟩, ⟨[1], rP b_q 0, 0⟩, ⟨[2], rS r1.2.fS, 1⟩, ⟨[], rP b_q 0, 0⟩, ⟨[4], rP b_q 0, 0⟩, ⟨[5], rP b_q 1, 0⟩, ⟨[6], rI .i64 x368, 1⟩, ⟨[3, 7], rI .u8 (bat r1.2.fS x368), 0⟩, ⟨[8], rI .u8 (bat r1.2.fS x368), 0⟩] [19, 20, 21, 22, 23, 24, 25, 26, 27, 5, 0, 4, 9, 10, 11, 12, 13, 14, 15, 16, 17] ?_ ?_))))
    ·refine oq (o_move rfl) (oq (o_nilcheck rfl) (oq (o_fieldAddr yu72 rfl ys9 rfl rfl) (of (o_load (i := 0) ya9 rfl rfl rfl) (oq (o_move rfl) (oq (o_nilcheck rfl) (oq (o_fieldAddr yu72 rfl ys3 rfl rfl) (of (o_load (i := 0) ya3 rfl rfl rfl) (oq (o_index_b yu9 rfl rfl g437) (oq (o_assign rfl) ?_)))))))))
     exact obl_e
    refine wk_x (wc_sr (wm rfl (wv (o_nilcheck rfl) (vF yu72 rfl ys3 (vL 0 ya3 rfl (ck h438 fun g439 h440 => wv (o_add rfl rfl g439) (wv (o_nilcheck rfl) (vF yu72 rfl ys3 (u_store (i := 0) ys3 rfl rfl (one_c rfl) rfl rfl (cs' := [rS r1.2.fS, rI .i64 (x368 + 1), rv v4, rB r1.2.fGreat]) rfl (H' := [.blk b_q [rS r1.2.fS, rI .i64 (x368 + 1), rv v4, rB r1.2.fGreat] 72, .row v4 51 4 (List.map eTApiCell r1.2.fCells), .row v367 5 1 (List.map eI_u8 x366)]) rfl (wl_x (wc_seq_cut (S := (Int × Int) × (Unit)) (fun σ => vRStr_j2 x366 σ.1.1 σ.1.2 = some t429) (fun σ => [(0, rP b_q 0), (4, rv v367), (5, rI .u8 σ.1.1), (9, rP b_q 0), (10, rP b_q 0), (11, rP b_q 1), (12, rI .i64 x368), (13, rP b_q 0), (14, rP b_q 0), (15, rP b_q 0), (16, rS r1.2.fS), (17, rI .i64 (r1.2.fS.length : Int)), (19, rP b_q 0), (20, rP b_q 0), (21, rP b_q 0), (22, rS r1.2.fS), (23, rP b_q 0), (24, rP b_q 0), (25, rP b_q 1), (26, rI .i64 x368), (27, rI .u8 (bat r1.2.fS x368))]) (fun σ => [.blk b_q [rS r1.2.fS, rI .i64 σ.1.2, rv v4, rB r1.2.fGreat] 72, .row v4 51 4 (List.map eTApiCell r1.2.fCells), .row v367 5 1 (List.map eI_u8 x366)]) ?_ ?_)))))))))))
    ·refine wc_block (wc_sr (wm rfl (wv (o_eq rfl rfl) (wa rfl (wl_x (cz h440 rfl (fun c464 h465 => ?_) (fun c464 h467 => ?_)))))))
     ·refine wc_sr (wm rfl (wv (r := rS (ofI x366)) (o_b2s (xs := x366) (i := 2) yu80 yu9 yu5 rfl rfl) (wa rfl (wa rfl (wl_x (wc_ret (wk_in_ret (wk_then_ret (wk_in_ret (wk_then_ret (wk_cut_ret ?_)))))))))))
      have h466 := stp_ret h465 ht430 hK428
      refine wk_in_ret (wk_then_ret ?_)
      obtain rfl := some_e h466
      exact wk_ret (r_2 yr82 (rv_t rfl) (rv_t rfl)) (sC (sC (sS sN))) ⟨v4, rfl, rfl⟩
     ·refine wc_seq_mid [(0, rP b_q 0), (4, rv v367), (5, rI .u8 (bat r1.2.fS x368)), (9, rP b_q 0), (10, rP b_q 0), (11, rP b_q 1), (12, rI .i64 x368), (13, rP b_q 0), (14, rP b_q 0), (15, rP b_q 0), (16, rS r1.2.fS), (17, rI .i64 (r1.2.fS.length : Int)), (19, rP b_q 0), (20, rP b_q 0), (21, rP b_q 0), (22, rS r1.2.fS), (23, rP b_q 0), (24, rP b_q 0), (25, rP b_q 1), (26, rI .i64 x368), (27, rI .u8 (bat r1.2.fS x368)), (40, rB ((decide ((bat r1.2.fS x368) < 32)) || (decide (126 < (bat r1.2.fS x368)))))] [.blk b_q [rS r1.2.fS, rI .i64 (x368 + 1), rv v4, rB r1.2.fGreat] 72, .row v4 51 4 (List.map eTApiCell r1.2.fCells), .row v367 5 1 (List.map eI_u8 x366)] ?_ ?_
      ·refine wc_region (wm rfl (wv (o_lt rfl rfl) (wm rfl (bsplit (decide ((bat r1.2.fS x368) < 32)) (fun c468 => ?_) (fun c468 => ?_)))))
       ·refine wf c468 (wf c468 (wv (r := rB true) (o_pick_t rfl c468 rfl) (wa rfl (wl_nil ?_))))
        exact wtc c468
       ·refine wo c468 (wm rfl (wo c468 (wv (o_gt rfl rfl) (wpf rfl c468 rfl (wa rfl (wl_nil ?_))))))
        exact wtc c468
      refine cz h467 rfl (fun c469 h470 => ?_) (fun c469 h472 => ?_)
      ·refine wc_sr (wv (r := rS ([] : Str)) (o_assign rfl) (wa rfl (wl_x (wc_ret (wk_in_ret (wk_then_ret (wk_in_ret (wk_then_ret (wk_cut_ret ?_)))))))))
       have h471 := stp_ret h470 ht430 hK428
       refine wk_in_ret (wk_then_ret ?_)
       obtain rfl := some_e h471
       exact wk_ret (r_2 yr82 (rv_t rfl) (rv_t rfl)) (sC (sC (sS sN))) ⟨v4, rfl, rfl⟩
      ·refine wc_sr (wm rfl (wv (o_eq rfl rfl) (wa rfl (wl_x (cz h472 rfl (fun c473 h474 => ?_) (fun c473 h487 => ?_))))))
       ·refine wc_seq (ck h474 fun g475 h476 => wc_seq_mid [(0, rP b_q 0), (4, rv v367), (9, rP b_q 0), (10, rP b_q 0), (11, rP b_q 1), (12, rI .i64 x368), (13, rP b_q 0), (14, rP b_q 0), (15, rP b_q 0), (16, rS r1.2.fS), (17, rI .i64 (r1.2.fS.length : Int)), (19, rP b_q 0), (20, rP b_q 0), (21, rP b_q 0), (22, rS r1.2.fS), (23, rP b_q 0), (24, rP b_q 0), (25, rP b_q 1), (26, rI .i64 x368), (27, rI .u8 (bat r1.2.fS x368)), (50, rP b_q 0), (51, rP b_q 0), (52, rP b_q 1), (53, rI .i64 (x368 + 1)), (54, rP b_q 0), (55, rP b_q 0), (56, rP b_q 0), (57, rS r1.2.fS), (58, rI .i64 (r1.2.fS.length : Int)), (59, rB (decide ((r1.2.fS.length : Int) ≤ (x368 + 1)))), (60, rB (decide ((r1.2.fS.length : Int) ≤ (x368 + 1)))), (83, rB ((decide ((r1.2.fS.length : Int) ≤ (x368 + 1))) || ((!decide ((bat r1.2.fS (x368 + 1)) = 34)) && (!decide ((bat r1.2.fS (x368 + 1)) = 92)))))] [.blk b_q [rS r1.2.fS, rI .i64 (x368 + 1), rv v4, rB r1.2.fGreat] 72, .row v4 51 4 (List.map eTApiCell r1.2.fCells), .row v367 5 1 (List.map eI_u8 x366)] ?_ ?_)
        ·refine bsplit (decide ((r1.2.fS.length : Int) ≤ (x368 + 1))) (fun c477 => ?_) (fun c477 => ?_)
         ·refine wc_rdq [0, 4, 9, 10, 11, 12, 13, 14, 15, 16, 17, 19, 20, 21, 22, 23, 24, 25, 26, 27] [⟨[], rP b_q 0, 0⟩, ⟨[0], rP b_q 0, 0⟩, ⟨[1], rP b_q 1, 0⟩, ⟨[2], rI .i64 (x368 + 1), 1⟩, ⟨[], rP b_q 0, 0⟩, ⟨[4], rP b_q 0, 0⟩, ⟨[5], rP b_q 0, 0⟩, ⟨[6], rS r1.2.fS, 1⟩, ⟨[7], rI .i64 (r1.2.fS.length : Int), 0⟩, ⟨[3, 8], rB (decide ((r1.2.fS.length : Int) ≤ (x368 + 1))), 0⟩, ⟨[9], rB (decide ((r1.2.fS.length : Int) ≤ (x368 + 1))), 0⟩, ⟨[10], rv undef, 0⟩, ⟨[11, 10], rv undef, 0⟩, ⟨[12, 10], rv undef, 0⟩, ⟨[13, 10], rv undef, 0⟩, ⟨[10], rv undef, 0⟩, ⟨[15, 10], rv undef, 0⟩, ⟨[16, 10], rv undef, 0⟩, ⟨[17, 10], rv undef, 0⟩, ⟨[14, 18, 10], rv undef, 0⟩, ⟨[19, 10], rv undef, 0⟩, ⟨[20, 10], rv undef, 0⟩, ⟨[21], rv undef, 0⟩, ⟨[22, 21], rv undef, 0⟩, ⟨[23, 21], rv undef, 0⟩, ⟨[24, 21], rv undef, 0⟩, ⟨[21], rv undef, 0⟩, ⟨[26, 21], rv undef, 0⟩, ⟨[27, 21], rv undef, 0⟩, ⟨[28, 21], rv undef, 0⟩, ⟨[25, 29, 21], rv undef, 0⟩, ⟨[30, 21], rv undef, 0⟩, ⟨[21, 31, 10], rv undef, 0⟩, ⟨[10, 32], rB true, 0⟩] [50, 51, 52, 53, 54, 55, 56, 57, 58, 59, 60, 61, 62, 63, 64, 65, 66, 67, 68, 69, 70, 71, 72, 73, 74, 75, 76, 77, 78, 79, 80, 81, 82, 83, 0, 4, 9, 10, 11, 12, 13, 14, 15, 16, 17, 19, 20, 21, 22, 23, 24, 25, 26, 27] ?_ ?_
          ·refine oq (o_move rfl) (oq (o_nilcheck rfl) (oq (o_fieldAddr yu72 rfl ys3 rfl rfl) (of (o_load (i := 0) ya3 rfl rfl rfl) (oq (o_move rfl) (oq (o_nilcheck rfl) (oq (o_fieldAddr yu72 rfl ys9 rfl rfl) (of (o_load (i := 0) ya9 rfl rfl rfl) (oq (o_len_s yu9 rfl) (oq (o_ge rfl rfl) (oq (o_move rfl) (oz c477 (oz c477 (oz c477 (oz c477 (oz c477 (oz c477 (oz c477 (oz c477 (oz c477 (oz c477 (oz c477 (ou (ou ?_)))))))))))))))))))))))
           refine ou (ou (ou (ou (ou (ou (ou (ou (oz c477 (oq (o_pick_t (b := decide ((r1.2.fS.length : Int) ≤ (x368 + 1))) rfl c477 rfl) ?_)))))))))
           exact obl_e
          exact wtc c477
         ·refine bsplit (!decide ((bat r1.2.fS (x368 + 1)) = 34)) (fun c478 => ?_) (fun c478 => ?_)
          ·refine wc_rdq [0, 4, 9, 10, 11, 12, 13, 14, 15, 16, 17, 19, 20, 21, 22, 23, 24, 25, 26, 27] [⟨[], rP b_q 0, 0⟩, ⟨[0], rP b_q 0, 0⟩, ⟨[1], rP b_q 1, 0⟩, ⟨[2], rI .i64 (x368 + 1), 1⟩, ⟨[], rP b_q 0, 0⟩, ⟨[4], rP b_q 0, 0⟩, ⟨[5], rP b_q 0, 0⟩, ⟨[6], rS r1.2.fS, 1⟩, ⟨[7], rI .i64 (r1.2.fS.length : Int), 0⟩, ⟨[3, 8], rB (decide ((r1.2.fS.length : Int) ≤ (x368 + 1))), 0⟩, ⟨[9], rB (decide ((r1.2.fS.length : Int) ≤ (x368 + 1))), 0⟩, ⟨[10], rP b_q 0, 0⟩, ⟨[11, 10], rP b_q 0, 0⟩, ⟨[12, 10], rP b_q 0, 0⟩, ⟨[13, 10], rS r1.2.fS, 1⟩, ⟨[10], rP b_q 0, 0⟩, ⟨[15, 10], rP b_q 0, 0⟩, ⟨[16, 10], rP b_q 1, 0⟩, ⟨[17, 10], rI .i64 (x368 + 1), 1⟩, ⟨[14, 18, 10], rI .u8 (bat r1.2.fS (x368 + 1)), 0⟩, ⟨[19, 10], rB (!decide ((bat r1.2.fS (x368 + 1)) = 34)), 0⟩, ⟨[20, 10], rB (!decide ((bat r1.2.fS (x368 + 1)) = 34)), 0⟩, ⟨[21], rP b_q 0, 0⟩, ⟨[22, 21], rP b_q 0, 0⟩, ⟨[23, 21], rP b_q 0, 0⟩, ⟨[24, 21], rS r1.2.fS, 1⟩, ⟨[21], rP b_q 0, 0⟩, ⟨[26, 21], rP b_q 0, 0⟩, ⟨[27, 21], rP b_q 1, 0⟩, ⟨[28, 21], rI .i64 (x368 + 1), 1⟩, ⟨[25, 29, 21], rI .u8 (bat r1.2.fS (x368 + 1)), 0⟩, ⟨[30, 21], rB (!decide ((bat r1.2.fS (x368 + 1)) = 92)), 0⟩, ⟨[21, 31, 10], rB (!decide ((bat r1.2.fS (x368 + 1)) = 92)), 0⟩, ⟨[10, 32], rB (!decide ((bat r1.2.fS (x368 + 1)) = 92)), 0⟩] [50, 51, 52, 53, 54, 55, 56, 57, 58, 59, 60, 61, 62, 63, 64, 65, 66, 67, 68, 69, 70, 71, 72, 73, 74, 75, 76, 77, 78, 79, 80, 81, 82, 83, 0, 4, 9, 10, 11, 12, 13, 14, 15, 16, 17, 19, 20, 21, 22, 23, 24, 25, 26, 27] ?_ ?_
           ·refine oq (o_move rfl) (oq (o_nilcheck rfl) (oq (o_fieldAddr yu72 rfl ys3 rfl rfl) (of (o_load (i := 0) ya3 rfl rfl rfl) (oq (o_move rfl) (oq (o_nilcheck rfl) (oq (o_fieldAddr yu72 rfl ys9 rfl rfl) (of (o_load (i := 0) ya9 rfl rfl rfl) (oq (o_len_s yu9 rfl) (oq (o_ge rfl rfl) (oq (o_move rfl) (on c477 (oq (o_move rfl) (on c477 (oq (o_nilcheck rfl) (on c477 (oq (o_fieldAddr yu72 rfl ys9 rfl rfl) (on c477 (of (o_load (i := 0) ya9 rfl rfl rfl) (on c477 (oq (o_move rfl) (on c477 (oq (o_nilcheck rfl) (on c477 ?_)))))))))))))))))))))))
            refine oq (o_fieldAddr yu72 rfl ys3 rfl rfl) (on c477 (of (o_load (i := 0) ya3 rfl rfl rfl) (on c477 (oq (o_index_b yu9 rfl rfl (imp_f g475 c477)) (on c477 (oq (o_ne rfl rfl) (on c477 (oq (o_move rfl) (on c478 (oq (o_move rfl) (on c478 (oq (o_nilcheck rfl) (on c478 (oq (o_fieldAddr yu72 rfl ys9 rfl rfl) (on c478 (of (o_load (i := 0) ya9 rfl rfl rfl) (on c478 (oq (o_move rfl) (on c478 (oq (o_nilcheck rfl) (on c478 (oq (o_fieldAddr yu72 rfl ys3 rfl rfl) (on c478 ?_)))))))))))))))))))))))
            refine of (o_load (i := 0) ya3 rfl rfl rfl) (on c478 (oq (o_index_b yu9 rfl rfl (imp_f g475 c477)) (on c478 (oq (o_ne rfl rfl) (on c477 (oq (o_pick_t rfl c478 rfl) (oq (o_pick_f rfl c477 rfl) ?_)))))))
            exact obl_e
           exact wtc (And.intro c477 c478)
          ·refine wc_rdq [0, 4, 9, 10, 11, 12, 13, 14, 15, 16, 17, 19, 20, 21, 22, 23, 24, 25, 26, 27] [⟨[], rP b_q 0, 0⟩, ⟨[0], rP b_q 0, 0⟩, ⟨[1], rP b_q 1, 0⟩, ⟨[2], rI .i64 (x368 + 1), 1⟩, ⟨[], rP b_q 0, 0⟩, ⟨[4], rP b_q 0, 0⟩, ⟨[5], rP b_q 0, 0⟩, ⟨[6], rS r1.2.fS, 1⟩, ⟨[7], rI .i64 (r1.2.fS.length : Int), 0⟩, ⟨[3, 8], rB (decide ((r1.2.fS.length : Int) ≤ (x368 + 1))), 0⟩, ⟨[9], rB (decide ((r1.2.fS.length : Int) ≤ (x368 + 1))), 0⟩, ⟨[10], rP b_q 0, 0⟩, ⟨[11, 10], rP b_q 0, 0⟩, ⟨[12, 10], rP b_q 0, 0⟩, ⟨[13, 10], rS r1.2.fS, 1⟩, ⟨[10], rP b_q 0, 0⟩, ⟨[15, 10], rP b_q 0, 0⟩, ⟨[16, 10], rP b_q 1, 0⟩, ⟨[17, 10], rI .i64 (x368 + 1), 1⟩, ⟨[14, 18, 10], rI .u8 (bat r1.2.fS (x368 + 1)), 0⟩, ⟨[19, 10], rB (!decide ((bat r1.2.fS (x368 + 1)) = 34)), 0⟩, ⟨[20, 10], rB (!decide ((bat r1.2.fS (x368 + 1)) = 34)), 0⟩, ⟨[21], rv undef, 0⟩, ⟨[22, 21], rv undef, 0⟩, ⟨[23, 21], rv undef, 0⟩, ⟨[24, 21], rv undef, 0⟩, ⟨[21], rv undef, 0⟩, ⟨[26, 21], rv undef, 0⟩, ⟨[27, 21], rv undef, 0⟩, ⟨[28, 21], rv undef, 0⟩, ⟨[25, 29, 21], rv undef, 0⟩, ⟨[30, 21], rv undef, 0⟩, ⟨[21, 31, 10], rB false, 0⟩, ⟨[10, 32], rB false, 0⟩] [50, 51, 52, 53, 54, 55, 56, 57, 58, 59, 60, 61, 62, 63, 64, 65, 66, 67, 68, 69, 70, 71, 72, 73, 74, 75, 76, 77, 78, 79, 80, 81, 82, 83, 0, 4, 9, 10, 11, 12, 13, 14, 15, 16, 17, 19, 20, 21, 22, 23, 24, 25, 26, 27] ?_ ?_
           ·refine oq (o_move rfl) (oq (o_nilcheck rfl) (oq (o_fieldAddr yu72 rfl ys3 rfl rfl) (of (o_load (i := 0) ya3 rfl rfl rfl) (oq (o_move rfl) (oq (o_nilcheck rfl) (oq (o_fieldAddr yu72 rfl ys9 rfl rfl) (of (o_load (i := 0) ya9 rfl rfl rfl) (oq (o_len_s yu9 rfl) (oq (o_ge rfl rfl) (oq (o_move rfl) (on c477 (oq (o_move rfl) (on c477 (oq (o_nilcheck rfl) (on c477 (oq (o_fieldAddr yu72 rfl ys9 rfl rfl) (on c477 (of (o_load (i := 0) ya9 rfl rfl rfl) (on c477 (oq (o_move rfl) (on c477 (oq (o_nilcheck rfl) (on c477 ?_)))))))))))))))))))))))
            refine oq (o_fieldAddr yu72 rfl ys3 rfl rfl) (on c477 (of (o_load (i := 0) ya3 rfl rfl rfl) (on c477 (oq (o_index_b yu9 rfl rfl (imp_f g475 c477)) (on c477 (oq (o_ne rfl rfl) (on c477 (oq (o_move rfl) (oz c478 (oz c478 (oz c478 (oz c478 (oz c478 (oz c478 (oz c478 (oz c478 (oz c478 (oz c478 (on c477 (oq (o_pick_f (b := !decide ((bat r1.2.fS (x368 + 1)) = 34)) rfl c478 rfl) (oq (o_pick_f rfl c477 rfl) ?_)))))))))))))))))))))
            exact obl_e
           exact wtc (And.intro c477 c478)
        refine cz h476 rfl (fun c479 h480 => ?_) (fun c479 h482 => ?_)
        ·refine wc_sr (wv (r := rS ([] : Str)) (o_assign rfl) (wa rfl (wl_x (wc_ret (wk_then_ret (wk_in_ret (wk_then_ret (wk_in_ret (wk_then_ret (wk_cut_ret ?_))))))))))
         have h481 := stp_ret h480 ht430 hK428
         refine wk_in_ret (wk_then_ret ?_)
         obtain rfl := some_e h481
         exact wk_ret (r_2 yr82 (rv_t rfl) (rv_t rfl)) (sC (sC (sS sN))) ⟨v4, rfl, rfl⟩
        ·refine wc_skip (wk_x (wc_seq (ck h482 fun g483 h484 => wc_rdq [0, 4, 9, 10, 11, 12, 13, 14, 15, 16, 17, 19, 20, 21, 22, 23, 24, 25, 26, 27, 50, 51, 52, 53, 54, 55, 56, 57, 58, 59, 60] [⟨[], rP b_q 0, 0⟩, ⟨[0], rP b_q 0, 0⟩, ⟨[1], rP b_q 0, 0⟩, ⟨[2], rS r1.2.fS, 1⟩, ⟨[], rP b_q 0, 0⟩, ⟨[4], rP b_q 0, 0⟩, ⟨[5], rP b_q 1, 0⟩, ⟨[6], rI .i64 (x368 + 1), 1⟩, ⟨[3, 7], rI .u8 (bat r1.2.fS (x368 + 1)), 0⟩, ⟨[8], rI .u8 (bat r1.2.fS (x368 + 1)), 0⟩] [84, 85, 86, 87, 88, 89, 90, 91, 92, 5, 0, 4, 9, 10, 11, 12, 13, 14, 15, 16, 17, 19, 20, 21, 22, 23, 24, 25, 26, 27, 50, 51, 52, 53, 54, 55, 56, 57, 58, 59, 60] ?_ ?_)))
         ·refine oq (o_move rfl) (oq (o_nilcheck rfl) (oq (o_fieldAddr yu72 rfl ys9 rfl rfl) (of (o_load (i := 0) ya9 rfl rfl rfl) (oq (o_move rfl) (oq (o_nilcheck rfl) (oq (o_fieldAddr yu72 rfl ys3 rfl rfl) (of (o_load (i := 0) ya3 rfl rfl rfl) (oq (o_index_b yu9 rfl rfl g483) (oq (o_assign rfl) ?_)))))))))
          exact obl_e
         exact wk_x (wc_region (wm rfl (wv (o_nilcheck rfl) (vF yu72 rfl ys3 (vL 0 ya3 rfl (ck h484 fun g485 h486 => wv (o_add rfl rfl g485) (wv (o_nilcheck rfl) (vF yu72 rfl ys3 (u_store (i := 0) ys3 rfl rfl (one_c rfl) rfl rfl (cs' := [rS r1.2.fS, rI .i64 ((x368 + 1) + 1), rv v4, rB r1.2.fGreat]) rfl (H' := [.blk b_q [rS r1.2.fS, rI .i64 ((x368 + 1) + 1), rv v4, rB r1.2.fGreat] 72, .row v4 51 4 (List.map eTApiCell r1.2.fCells), .row v367 5 1 (List.map eI_u8 x366)]) rfl (wl_nil (wk_in_norm (wk_then (wk_some ((bat r1.2.fS (x368 + 1), (x368 + 1) + 1), ()) h486 (Sub.c rfl (Sub.c5 rfl rfl rfl rfl rfl (Sub.c5 rfl rfl rfl rfl rfl (Sub.c5 rfl rfl rfl rfl rfl (Sub.c5 rfl rfl rfl rfl rfl Sub.nil))))) (sC (sC (sC sN))))))))))))))))
       ·exact wc_skip (wk_in_norm (wk_then (wk_some ((bat r1.2.fS x368, x368 + 1), ()) h487 (Sub.c rfl (Sub.c5 rfl rfl rfl rfl rfl (Sub.c5 rfl rfl rfl rfl rfl (Sub.c5 rfl rfl rfl rfl rfl (Sub.c5 rfl rfl rfl rfl rfl Sub.nil))))) (sC (sC (sC sN))))))
    ·rintro ⟨⟨x462, x463⟩, ⟨⟩⟩ h488
     refine wc_as (l' := [(0, rP b_q 0), (4, rv v367), (5, rI .u8 x462), (9, rP b_q 0), (10, rP b_q 0), (11, rP b_q 1), (12, rI .i64 x368), (13, rP b_q 0), (14, rP b_q 0), (15, rP b_q 0), (16, rS r1.2.fS), (17, rI .i64 (r1.2.fS.length : Int)), (19, rP b_q 0), (20, rP b_q 0), (21, rP b_q 0), (22, rS r1.2.fS), (23, rP b_q 0), (24, rP b_q 0), (25, rP b_q 1), (26, rI .i64 x368), (27, rI .u8 (bat r1.2.fS x368))]) (H' := [.blk b_q [rS r1.2.fS, rI .i64 x463, rv v4, rB r1.2.fGreat] 72, .row v4 51 4 (List.map eTApiCell r1.2.fCells), .row v367 5 1 (List.map eI_u8 x366)]) rfl rfl ?_
     replace h488 : vRStr_j2 x366 x462 x463 = some t429 := h488
     unfold vRStr_j2 at h488
     refine wc_region (wm rfl (wm rfl (w_buildSlice (ys := ([x462] : List Int)) (enc := eI_u8) (css := [[rI .u8 x462]]) (xs := [.tmp 101]) yu80 ys5 yz5 rfl rfl rfl ⟨Cel.one rfl (Up.refl _), trivial⟩ rfl eI_u8_len rfl rfl rfl (fun b489 => ?_))))
     refine ck h488 fun g491 h492 => Exists.elim info5 fun inf hinf => w_append (xs := x366) (ys := ([x462] : List Int)) (enc := eI_u8) (i := 3) yu80 hinf.1 hinf.2.1 hinf.2.2.1 hinf.2.2.2 rfl rfl rfl rfl rfl (Src.w (i := 0) rfl rfl) eI_u8_len eI_u8_one g491 rfl (fun v490 => ?_)
     refine wa rfl (wl_nil (wk_in_norm (wk_perm (H2 := [.blk b_q [rS r1.2.fS, rI .i64 x463, rv v4, rB r1.2.fGreat] 72, .row v4 51 4 (List.map eTApiCell r1.2.fCells), .row v490 5 1 (List.map eI_u8 (x366 ++ ([x462] : List Int))), .row (.slice (some ⟨b489, 0, none⟩) 1 1) 5 1 (List.map eI_u8 ([x462] : List Int))]) ((perm_front (i := 2) rfl).trans (List.Perm.cons _ ((perm_front (i := 2) rfl).trans (List.Perm.cons _ (List.Perm.refl _))))) ?_)))
     have h493 := stp_next h492 ht430
     exact wk_then (wk_some (m431, (x366 ++ ([x462] : List Int), x463), v490) ⟨h493, Nat.lt_succ_self _⟩ (Sub.c rfl (Sub.c rfl Sub.nil)) (sC (sC (sC (sS sN)))))
   ·refine wc_exit (wk_then_exit ?_)
    have h495 := stp_go h494 ht430 hK428
    exact wk_then_exit (wk_cut_hit (wk_some (x368, ()) h495 Sub.nil (sC (sC (sS sN)))))
  ·rintro ⟨x425, ⟨⟩⟩ h496
   refine wk_as (l' := []) (H' := [.blk b_q [rS r1.2.fS, rI .i64 x425, rv v4, rB r1.2.fGreat] 72, .row v4 51 4 (List.map eTApiCell r1.2.fCells)]) rfl rfl ?_
   replace h496 : vRStr_k1 r1 x425 = some r := h496
   unfold vRStr_k1 at h496
   refine wk_in_hit (wk_x (wc_sr (wv (r := rS ([] : Str)) (o_assign rfl) (wa rfl (wl_x (wc_ret ?_))))))
   obtain rfl := some_e h496
   exact wk_ret (r_2 yr82 (rv_t rfl) (rv_t rfl)) (sC (sC sN)) ⟨v4, rfl, rfl⟩

theorem vRInt_w (F : Nat) (b_q : Nat) (v_q_2 : Value) (q : TValueReader) (r : Bool × TValueReader) (h : vRInt F q = some r) : Fn Tryz.prog GE 117 [rP b_q 0] [.blk b_q [rS q.fS, rI .i64 q.fAt, rv v_q_2, rB q.fGreat] 72, .row v_q_2 51 4 (List.map eTApiCell q.fCells)] (fun R H => ∃ w0_2 : Value, R = rB r.1 ∧ H = [.blk b_q [rS r.2.fS, rI .i64 r.2.fAt, rv w0_2, rB r.2.fGreat] 72, .row w0_2 51 4 (List.map eTApiCell r.2.fCells)]) := by
 refine enter (n := 104) Tryz.func117 rfl Tryz.ntmps117 rfl (fun w Z => ?_)
 unfold vRInt at h
 refine wc_sr (wa rfl (wl_y (wm rfl (wv (o_nilcheck rfl) (vF yu72 rfl ys3 (vL 0 ya3 rfl (wa rfl (wl_y (wm rfl (ob h fun r1 e3 h2 => wcl (Hr := []) yk80 (vTake_w b_q v_q_2 q ([45] : Str) r1 e3) rfl (List.Perm.refl _) rfl ?_))))))))))
 rintro _ _ ⟨v4, rfl, rfl⟩
 refine wl_y (wm rfl (wv (o_nilcheck rfl) (vF yu72 rfl ys3 (vL 0 ya3 rfl (wa rfl (wl_x (wc_seq (wc_block (ob h2 fun o86 eo87 hK88 => wc_loop2 (S := Nat × (Int) × (Unit)) (V := (Int) × (Unit)) 0 (fun σ => lop (fun σ => vRInt_b1 r1 σ) σ.1 σ.2.1 = some o86) (fun σ => [(0, rP b_q 0), (3, rI .i64 q.fAt), (4, rI .i64 r1.2.fAt)]) (fun σ => [.blk b_q [rS r1.2.fS, rI .i64 σ.2.1, rv v4, rB r1.2.fGreat] 72, .row v4 51 4 (List.map eTApiCell r1.2.fCells)]) (fun σ => σ.1) (F, r1.2.fAt, ()) eo87 (Sub.c rfl (Sub.c rfl (Sub.c rfl Sub.nil))) (sC (sC sN)) (fun σ => vRInt_k1 q r1 σ.1 = some r) (fun σ => [(0, rP b_q 0), (3, rI .i64 q.fAt), (4, rI .i64 r1.2.fAt)]) (fun σ => [.blk b_q [rS r1.2.fS, rI .i64 σ.1, rv v4, rB r1.2.fGreat] 72, .row v4 51 4 (List.map eTApiCell r1.2.fCells)]) ?_ ?_)))))))))
 ·rintro ⟨n94, x75, ⟨⟩⟩ hi92
  refine wc_as (l' := [(0, rP b_q 0), (3, rI .i64 q.fAt), (4, rI .i64 r1.2.fAt)]) (H' := [.blk b_q [rS r1.2.fS, rI .i64 x75, rv v4, rB r1.2.fGreat] 72, .row v4 51 4 (List.map eTApiCell r1.2.fCells)]) rfl rfl ?_
  obtain ⟨m91, rfl, t89, h93, ht90⟩ := lop_e hi92
  replace h93 : vRInt_b1 r1 x75 = some t89 := h93
  unfold vRInt_b1 at h93
  refine wc_seq (ck h93 fun g95 h96 => wc_seq_mid [(0, rP b_q 0), (3, rI .i64 q.fAt), (4, rI .i64 r1.2.fAt), (17, rP b_q 0), (18, rP b_q 0), (19, rP b_q 1), (20, rI .i64 x75), (21, rP b_q 0), (22, rP b_q 0), (23, rP b_q 0), (24, rS r1.2.fS), (25, rI .i64 (r1.2.fS.length : Int)), (26, rB (decide (x75 < (r1.2.fS.length : Int)))), (27, rB (decide (x75 < (r1.2.fS.length : Int)))), (38, rB ((decide (x75 < (r1.2.fS.length : Int))) && (decide (48 ≤ (bat r1.2.fS x75))))), (39, rB ((decide (x75 < (r1.2.fS.length : Int))) && (decide (48 ≤ (bat r1.2.fS x75))))), (50, rB ((decide (x75 < (r1.2.fS.length : Int))) && ((decide (48 ≤ (bat r1.2.fS x75))) && (decide ((bat r1.2.fS x75) ≤ 57)))))] [.blk b_q [rS r1.2.fS, rI .i64 x75, rv v4, rB r1.2.fGreat] 72, .row v4 51 4 (List.map eTApiCell r1.2.fCells)] ?_ ?_)
  ·refine bsplit (decide (x75 < (r1.2.fS.length : Int))) (fun c97 => ?_) (fun c97 => ?_)
   ·refine bsplit (decide (48 ≤ (bat r1.2.fS x75))) (fun c98 => ?_) (fun c98 => ?_)
    ·refine wc_rdq [0, 3, 4] [⟨[], rP b_q 0, 0⟩, ⟨[0], rP b_q 0, 0⟩, ⟨[1], rP b_q 1, 0⟩, ⟨[2], rI .i64 x75, 1⟩, ⟨[], rP b_q 0, 0⟩, ⟨[4], rP b_q 0, 0⟩, ⟨[5], rP b_q 0, 0⟩, ⟨[6], rS r1.2.fS, 1⟩, ⟨[7], rI .i64 (r1.2.fS.length : Int), 0⟩, ⟨[3, 8], rB (decide (x75 < (r1.2.fS.length : Int))), 0⟩, ⟨[9], rB (decide (x75 < (r1.2.fS.length : Int))), 0⟩, ⟨[10], rP b_q 0, 0⟩, ⟨[11, 10], rP b_q 0, 0⟩, ⟨[12, 10], rP b_q 0, 0⟩, ⟨[13, 10], rS r1.2.fS, 1⟩, ⟨[10], rP b_q 0, 0⟩, ⟨[15, 10], rP b_q 0, 0⟩, ⟨[16, 10], rP b_q 1, 0⟩, ⟨[17, 10], rI .i64 x75, 1⟩, ⟨[14, 18, 10], rI .u8 (bat r1.2.fS x75), 0⟩, ⟨[19, 10], rB (decide (48 ≤ (bat r1.2.fS x75))), 0⟩, ⟨[10, 20], rB (decide (48 ≤ (bat r1.2.fS x75))), 0⟩, ⟨[21], rB (decide (48 ≤ (bat r1.2.fS x75))), 0⟩, ⟨[22], rP b_q 0, 0⟩, ⟨[23, 22], rP b_q 0, 0⟩, ⟨[24, 22], rP b_q 0, 0⟩, ⟨[25, 22], rS r1.2.fS, 1⟩, ⟨[22], rP b_q 0, 0⟩, ⟨[27, 22], rP b_q 0, 0⟩, ⟨[28, 22], rP b_q 1, 0⟩, ⟨[29, 22], rI .i64 x75, 1⟩, ⟨[26, 30, 22], rI .u8 (bat r1.2.fS x75), 0⟩, ⟨[31, 22], rB (decide ((bat r1.2.fS x75) ≤ 57)), 0⟩, ⟨[22, 32], rB (decide ((bat r1.2.fS x75) ≤ 57)), 0⟩] [17, 18, 19, 20, 21, 22, 23, 24, 25, 26, 27, 28, 29, 30, 31, 32, 33, 34, 35, 36, 37, 38, 39, 40, 41, 42, 43, 44, 45, 46, 47, 48, 49, 50, 0, 3, 4] ?_ ?_
     ·refine oq (o_move rfl) (oq (o_nilcheck rfl) (oq (o_fieldAddr yu72 rfl ys3 rfl rfl) (of (o_load (i := 0) ya3 rfl rfl rfl) (oq (o_move rfl) (oq (o_nilcheck rfl) (oq (o_fieldAddr yu72 rfl ys9 rfl rfl) (of (o_load (i := 0) ya9 rfl rfl rfl) (oq (o_len_s yu9 rfl) (oq (o_lt rfl rfl) (oq (o_move rfl) (on c97 (oq (o_move rfl) (on c97 (oq (o_nilcheck rfl) (on c97 (oq (o_fieldAddr yu72 rfl ys9 rfl rfl) (on c97 (of (o_load (i := 0) ya9 rfl rfl rfl) (on c97 (oq (o_move rfl) (on c97 (oq (o_nilcheck rfl) (on c97 ?_)))))))))))))))))))))))
      refine oq (o_fieldAddr yu72 rfl ys3 rfl rfl) (on c97 (of (o_load (i := 0) ya3 rfl rfl rfl) (on c97 (oq (o_index_b yu9 rfl rfl (imp_t g95 c97)) (on c97 (oq (o_ge rfl rfl) (oq (o_pick_t rfl c97 rfl) (oq (o_move rfl) (on c98 (oq (o_move rfl) (on c98 (oq (o_nilcheck rfl) (on c98 (oq (o_fieldAddr yu72 rfl ys9 rfl rfl) (on c98 (of (o_load (i := 0) ya9 rfl rfl rfl) (on c98 (oq (o_move rfl) (on c98 (oq (o_nilcheck rfl) (on c98 (oq (o_fieldAddr yu72 rfl ys3 rfl rfl) (on c98 ?_)))))))))))))))))))))))
      refine of (o_load (i := 0) ya3 rfl rfl rfl) (on c98 (oq (o_index_b yu9 rfl rfl (imp_t g95 c97)) (on c98 (oq (o_le rfl rfl) (oq (o_pick_t rfl c98 rfl) ?_)))))
      exact obl_e
     exact wtc (And.intro c97 c98)
    ·refine wc_rdq [0, 3, 4] [⟨[], rP b_q 0, 0⟩, ⟨[0], rP b_q 0, 0⟩, ⟨[1], rP b_q 1, 0⟩, ⟨[2], rI .i64 x75, 1⟩, ⟨[], rP b_q 0, 0⟩, ⟨[4], rP b_q 0, 0⟩, ⟨[5], rP b_q 0, 0⟩, ⟨[6], rS r1.2.fS, 1⟩, ⟨[7], rI .i64 (r1.2.fS.length : Int), 0⟩, ⟨[3, 8], rB (decide (x75 < (r1.2.fS.length : Int))), 0⟩, ⟨[9], rB (decide (x75 < (r1.2.fS.length : Int))), 0⟩, ⟨[10], rP b_q 0, 0⟩, ⟨[11, 10], rP b_q 0, 0⟩, ⟨[12, 10], rP b_q 0, 0⟩, ⟨[13, 10], rS r1.2.fS, 1⟩, ⟨[10], rP b_q 0, 0⟩, ⟨[15, 10], rP b_q 0, 0⟩, ⟨[16, 10], rP b_q 1, 0⟩, ⟨[17, 10], rI .i64 x75, 1⟩, ⟨[14, 18, 10], rI .u8 (bat r1.2.fS x75), 0⟩, ⟨[19, 10], rB (decide (48 ≤ (bat r1.2.fS x75))), 0⟩, ⟨[10, 20], rB (decide (48 ≤ (bat r1.2.fS x75))), 0⟩, ⟨[21], rB (decide (48 ≤ (bat r1.2.fS x75))), 0⟩, ⟨[22], rv undef, 0⟩, ⟨[23, 22], rv undef, 0⟩, ⟨[24, 22], rv undef, 0⟩, ⟨[25, 22], rv undef, 0⟩, ⟨[22], rv undef, 0⟩, ⟨[27, 22], rv undef, 0⟩, ⟨[28, 22], rv undef, 0⟩, ⟨[29, 22], rv undef, 0⟩, ⟨[26, 30, 22], rv undef, 0⟩, ⟨[31, 22], rv undef, 0⟩, ⟨[22, 32], rB false, 0⟩] [17, 18, 19, 20, 21, 22, 23, 24, 25, 26, 27, 28, 29, 30, 31, 32, 33, 34, 35, 36, 37, 38, 39, 40, 41, 42, 43, 44, 45, 46, 47, 48, 49, 50, 0, 3, 4] ?_ ?_
     ·refine oq (o_move rfl) (oq (o_nilcheck rfl) (oq (o_fieldAddr yu72 rfl ys3 rfl rfl) (of (o_load (i := 0) ya3 rfl rfl rfl) (oq (o_move rfl) (oq (o_nilcheck rfl) (oq (o_fieldAddr yu72 rfl ys9 rfl rfl) (of (o_load (i := 0) ya9 rfl rfl rfl) (oq (o_len_s yu9 rfl) (oq (o_lt rfl rfl) (oq (o_move rfl) (on c97 (oq (o_move rfl) (on c97 (oq (o_nilcheck rfl) (on c97 (oq (o_fieldAddr yu72 rfl ys9 rfl rfl) (on c97 (of (o_load (i := 0) ya9 rfl rfl rfl) (on c97 (oq (o_move rfl) (on c97 (oq (o_nilcheck rfl) (on c97 ?_)))))))))))))))))))))))
      refine oq (o_fieldAddr yu72 rfl ys3 rfl rfl) (on c97 (of (o_load (i := 0) ya3 rfl rfl rfl) (on c97 (oq (o_index_b yu9 rfl rfl (imp_t g95 c97)) (on c97 (oq (o_ge rfl rfl) (oq (o_pick_t rfl c97 rfl) (oq (o_move rfl) (oz c98 (oz c98 (oz c98 (oz c98 (oz c98 (oz c98 (oz c98 (oz c98 (oz c98 (oz c98 (oq (o_pick_f (b := decide (48 ≤ (bat r1.2.fS x75))) rfl c98 rfl) ?_)))))))))))))))))))
      exact obl_e
     exact wtc (And.intro c97 c98)
   ·refine wc_rdq [0, 3, 4] [⟨[], rP b_q 0, 0⟩, ⟨[0], rP b_q 0, 0⟩, ⟨[1], rP b_q 1, 0⟩, ⟨[2], rI .i64 x75, 1⟩, ⟨[], rP b_q 0, 0⟩, ⟨[4], rP b_q 0, 0⟩, ⟨[5], rP b_q 0, 0⟩, ⟨[6], rS r1.2.fS, 1⟩, ⟨[7], rI .i64 (r1.2.fS.length : Int), 0⟩, ⟨[3, 8], rB (decide (x75 < (r1.2.fS.length : Int))), 0⟩, ⟨[9], rB (decide (x75 < (r1.2.fS.length : Int))), 0⟩, ⟨[10], rv undef, 0⟩, ⟨[11, 10], rv undef, 0⟩, ⟨[12, 10], rv undef, 0⟩, ⟨[13, 10], rv undef, 0⟩, ⟨[10], rv undef, 0⟩, ⟨[15, 10], rv undef, 0⟩, ⟨[16, 10], rv undef, 0⟩, ⟨[17, 10], rv undef, 0⟩, ⟨[14, 18, 10], rv undef, 0⟩, ⟨[19, 10], rv undef, 0⟩, ⟨[10, 20], rB false, 0⟩, ⟨[21], rB false, 0⟩, ⟨[22], rv undef, 0⟩, ⟨[23, 22], rv undef, 0⟩, ⟨[24, 22], rv undef, 0⟩, ⟨[25, 22], rv undef, 0⟩, ⟨[22], rv undef, 0⟩, ⟨[27, 22], rv undef, 0⟩, ⟨[28, 22], rv undef, 0⟩, ⟨[29, 22], rv undef, 0⟩, ⟨[26, 30, 22], rv undef, 0⟩, ⟨[31, 22], rv undef, 0⟩, ⟨[22, 32], rB false, 0⟩] [17, 18, 19, 20, 21, 22, 23, 24, 25, 26, 27, 28, 29, 30, 31, 32, 33, 34, 35, 36, 37, 38, 39, 40, 41, 42, 43, 44, 45, 46, 47, 48, 49, 50, 0, 3, 4] ?_ ?_
    ·refine oq (o_move rfl) (oq (o_nilcheck rfl) (oq (o_fieldAddr yu72 rfl ys3 rfl rfl) (of (o_load (i := 0) ya3 rfl rfl rfl) (oq (o_move rfl) (oq (o_nilcheck rfl) (oq (o_fieldAddr yu72 rfl ys9 rfl rfl) (of (o_load (i := 0) ya9 rfl rfl rfl) (oq (o_len_s yu9 rfl) (oq (o_lt rfl rfl) (oq (o_move rfl) (oz c97 (oz c97 (oz c97 (oz c97 (oz c97 (oz c97 (oz c97 (oz c97 (oz c97 (oz c97 (oq (o_pick_f (b := decide (x75 < (r1.2.fS.length : Int))) rfl c97 rfl) (oq (o_move rfl) (oz rfl ?_)))))))))))))))))))))))
     refine oz rfl (oz rfl (oz rfl (oz rfl (oz rfl (oz rfl (oz rfl (oz rfl (oz rfl (oq (o_pick_f (b := false) rfl rfl rfl) ?_)))))))))
     exact obl_e
    exact wtc c97
  refine cz h96 rfl (fun c99 h100 => ?_) (fun c99 h104 => ?_)
  ·refine wc_skip (wk_x (wc_block (wc_region (wm rfl (wv (o_nilcheck rfl) (vF yu72 rfl ys3 (vL 0 ya3 rfl (ck h100 fun g101 h102 => wv (o_add rfl rfl g101) (wv (o_nilcheck rfl) (vF yu72 rfl ys3 (u_store (i := 0) ys3 rfl rfl (one_c rfl) rfl rfl (cs' := [rS r1.2.fS, rI .i64 (x75 + 1), rv v4, rB r1.2.fGreat]) rfl (H' := [.blk b_q [rS r1.2.fS, rI .i64 (x75 + 1), rv v4, rB r1.2.fGreat] 72, .row v4 51 4 (List.map eTApiCell r1.2.fCells)]) rfl (wl_nil (wk_in_norm ?_)))))))))))))
   have h103 := stp_next h102 ht90
   exact wk_then (wk_some (m91, x75 + 1, ()) ⟨h103, Nat.lt_succ_self _⟩ (Sub.c rfl (Sub.c rfl (Sub.c rfl Sub.nil))) (sC (sC sN)))
  ·refine wc_exit (wk_then_exit ?_)
   have h105 := stp_go h104 ht90 hK88
   exact wk_then_exit (wk_cut_hit (wk_some (x75, ()) h105 (Sub.c rfl (Sub.c rfl (Sub.c rfl Sub.nil))) (sC (sC sN))))
 ·rintro ⟨x85, ⟨⟩⟩ h106
  refine wk_as (l' := [(0, rP b_q 0), (3, rI .i64 q.fAt), (4, rI .i64 r1.2.fAt)]) (H' := [.blk b_q [rS r1.2.fS, rI .i64 x85, rv v4, rB r1.2.fGreat] 72, .row v4 51 4 (List.map eTApiCell r1.2.fCells)]) rfl rfl ?_
  replace h106 : vRInt_k1 q r1 x85 = some r := h106
  unfold vRInt_k1 at h106
  refine wk_in_hit (wk_x (wc_seq (ck h106 fun g107 h108 => ck h108 fun g109 h110 => ck h110 fun g111 h112 => wc_rdq [0, 3, 4] [⟨[], rP b_q 0, 0⟩, ⟨[0], rP b_q 0, 0⟩, ⟨[1], rP b_q 0, 0⟩, ⟨[2], rS r1.2.fS, 1⟩, ⟨[], rI .i64 q.fAt, 0⟩, ⟨[], rP b_q 0, 0⟩, ⟨[5], rP b_q 0, 0⟩, ⟨[6], rP b_q 1, 0⟩, ⟨[7], rI .i64 x85, 1⟩, ⟨[3, 4, 8], rS (List.take (Int.toNat x85 - Int.toNat q.fAt) (List.drop (Int.toNat q.fAt) r1.2.fS)), 0⟩, ⟨[9], rTup [rI .i64 (parseV (List.take (Int.toNat x85 - Int.toNat q.fAt) (List.drop (Int.toNat q.fAt) r1.2.fS))), rI .i64 (parseE (List.take (Int.toNat x85 - Int.toNat q.fAt) (List.drop (Int.toNat q.fAt) r1.2.fS)))], 0⟩, ⟨[10], rTup [rI .i64 (parseV (List.take (Int.toNat x85 - Int.toNat q.fAt) (List.drop (Int.toNat q.fAt) r1.2.fS))), rI .i64 (parseE (List.take (Int.toNat x85 - Int.toNat q.fAt) (List.drop (Int.toNat q.fAt) r1.2.fS)))], 0⟩, ⟨[11], rI .i64 (parseV (List.take (Int.toNat x85 - Int.toNat q.fAt) (List.drop (Int.toNat q.fAt) r1.2.fS))), 0⟩, ⟨[11], rI .i64 (parseE (List.take (Int.toNat x85 - Int.toNat q.fAt) (List.drop (Int.toNat q.fAt) r1.2.fS))), 0⟩, ⟨[12], rI .i64 (parseV (List.take (Int.toNat x85 - Int.toNat q.fAt) (List.drop (Int.toNat q.fAt) r1.2.fS))), 0⟩, ⟨[13], rI .i64 (parseE (List.take (Int.toNat x85 - Int.toNat q.fAt) (List.drop (Int.toNat q.fAt) r1.2.fS))), 0⟩] [5, 6, 0, 4] ?_ ?_)))
  ·refine oq (o_move rfl) (oq (o_nilcheck rfl) (oq (o_fieldAddr yu72 rfl ys9 rfl rfl) (of (o_load (i := 0) ya9 rfl rfl rfl) (oq (o_move rfl) (oq (o_move rfl) (oq (o_nilcheck rfl) (oq (o_fieldAddr yu72 rfl ys3 rfl rfl) (of (o_load (i := 0) ya3 rfl rfl rfl) (oq (o_slice_lh yu9 rfl rfl rfl g107 g109) (obl_q rfl (fun H => ok_call0 (rs := [rS (List.take (Int.toNat x85 - Int.toNat q.fAt) (List.drop (Int.toNat q.fAt) r1.2.fS))]) (r := rTup [rI .i64 (parseV (List.take (Int.toNat x85 - Int.toNat q.fAt) (List.drop (Int.toNat q.fAt) r1.2.fS))), rI .i64 (parseE (List.take (Int.toNat x85 - Int.toNat q.fAt) (List.drop (Int.toNat q.fAt) r1.2.fS)))]) Tryz.call29 rfl (parse_q (List.take (Int.toNat x85 - Int.toNat q.fAt) (List.drop (Int.toNat q.fAt) r1.2.fS)) g111) rfl) ?_))))))))))
   refine oq (o_move rfl) (oq (o_extract rfl rfl) (oq (o_extract rfl rfl) (oq (o_assign rfl) (oq (o_assign rfl) ?_))))
   exact obl_e
  refine wk_x (wc_seq (wc_seq_mid [(0, rP b_q 0), (5, rI .i64 (parseV (List.take (Int.toNat x85 - Int.toNat q.fAt) (List.drop (Int.toNat q.fAt) r1.2.fS)))), (6, rI .i64 (parseE (List.take (Int.toNat x85 - Int.toNat q.fAt) (List.drop (Int.toNat q.fAt) r1.2.fS)))), (81, rB ((decide ((parseE (List.take (Int.toNat x85 - Int.toNat q.fAt) (List.drop (Int.toNat q.fAt) r1.2.fS))) = 1)) || (decide (r1.2.fAt = x85))))] [.blk b_q [rS r1.2.fS, rI .i64 x85, rv v4, rB r1.2.fGreat] 72, .row v4 51 4 (List.map eTApiCell r1.2.fCells)] ?_ ?_))
  ·refine wc_region (wm rfl (wv (o_eq rfl rfl) (wm rfl (bsplit (decide ((parseE (List.take (Int.toNat x85 - Int.toNat q.fAt) (List.drop (Int.toNat q.fAt) r1.2.fS))) = 1)) (fun c113 => ?_) (fun c113 => ?_)))))
   ·refine wf c113 (wf c113 (wf c113 (wf c113 (wf c113 (wf c113 (wv (r := rB true) (o_pick_t rfl c113 rfl) (wl_nil ?_)))))))
    exact wtc c113
   ·refine wo c113 (wm rfl (wo c113 (wm rfl (wo c113 (wv (o_nilcheck rfl) (wo c113 (vF yu72 rfl ys3 (wo c113 (vL 0 ya3 rfl (wo c113 (wv (o_eq rfl rfl) (wpf rfl c113 rfl (wl_nil ?_)))))))))))))
    exact wtc c113
  refine cz h112 rfl (fun c114 h115 => ?_) (fun c114 h116 => ?_)
  ·refine wc_sr (wa rfl (wl_x (wc_ret (wk_then_ret ?_))))
   obtain rfl := some_e h115
   exact wk_ret (r_1 Tryz.results117 (rv_t rfl)) (sC (sC sN)) ⟨v4, rfl, rfl⟩
  ·refine wc_skip (wk_x (wc_seq_mid [(0, rP b_q 0), (5, rI .i64 (parseV (List.take (Int.toNat x85 - Int.toNat q.fAt) (List.drop (Int.toNat q.fAt) r1.2.fS))))] [.blk b_q [rS r1.2.fS, rI .i64 x85, rv v4, rB (r1.2.fGreat || (!decide ((parseE (List.take (Int.toNat x85 - Int.toNat q.fAt) (List.drop (Int.toNat q.fAt) r1.2.fS))) = 0)))] 72, .row v4 51 4 (List.map eTApiCell r1.2.fCells)] ?_ ?_))
   ·refine wc_region (wm rfl (wm rfl (wv (o_nilcheck rfl) (vF yu72 rfl ys4 (vL 0 ya4 rfl (wm rfl (bsplit (r1.2.fGreat) (fun c117 => ?_) (fun c117 => ?_))))))))
    ·refine wf c117 (wf c117 (wv (r := rB true) (o_pick_t rfl c117 rfl) (wv (o_nilcheck rfl) (vF yu72 rfl ys4 (u_store (i := 0) ys4 rfl rfl (one_c rfl) rfl rfl (cs' := [rS r1.2.fS, rI .i64 x85, rv v4, rB true]) rfl (H' := [.blk b_q [rS r1.2.fS, rI .i64 x85, rv v4, rB true] 72, .row v4 51 4 (List.map eTApiCell r1.2.fCells)]) rfl (wl_nil (wk_asH (H' := [.blk b_q [rS r1.2.fS, rI .i64 x85, rv v4, rB (r1.2.fGreat || (!decide ((parseE (List.take (Int.toNat x85 - Int.toNat q.fAt) (List.drop (Int.toNat q.fAt) r1.2.fS))) = 0)))] 72, .row v4 51 4 (List.map eTApiCell r1.2.fCells)]) (by simp only [c117, Bool.true_and, Bool.false_and, Bool.true_or, Bool.false_or, Bool.and_true, Bool.and_false, Bool.or_true, Bool.or_false, Bool.not_true, Bool.not_false, cond_true, cond_false]) ?_)))))))
     exact wt
    ·refine wo c117 (wm rfl (wo c117 (wv (o_ne rfl rfl) (wpf rfl c117 rfl (wv (o_nilcheck rfl) (vF yu72 rfl ys4 (u_store (i := 0) ys4 rfl rfl (one_c rfl) rfl rfl (cs' := [rS r1.2.fS, rI .i64 x85, rv v4, rB (!decide ((parseE (List.take (Int.toNat x85 - Int.toNat q.fAt) (List.drop (Int.toNat q.fAt) r1.2.fS))) = 0))]) rfl (H' := [.blk b_q [rS r1.2.fS, rI .i64 x85, rv v4, rB (!decide ((parseE (List.take (Int.toNat x85 - Int.toNat q.fAt) (List.drop (Int.toNat q.fAt) r1.2.fS))) = 0))] 72, .row v4 51 4 (List.map eTApiCell r1.2.fCells)]) rfl (wl_nil (wk_asH (H' := [.blk b_q [rS r1.2.fS, rI .i64 x85, rv v4, rB (r1.2.fGreat || (!decide ((parseE (List.take (Int.toNat x85 - Int.toNat q.fAt) (List.drop (Int.toNat q.fAt) r1.2.fS))) = 0)))] 72, .row v4 51 4 (List.map eTApiCell r1.2.fCells)]) (by simp only [c117, Bool.true_and, Bool.false_and, Bool.true_or, Bool.false_or, Bool.and_true, Bool.and_false, Bool.or_true, Bool.or_false, Bool.not_true, Bool.not_false, cond_true, cond_false]) ?_)))))))))
     exact wt
   refine wc_sr (wm rfl (wm rfl (wv (o_nilcheck rfl) (vF yu72 rfl ys23 (vL 0 ya23 rfl (wm rfl (wv (r := rAgg [rI .i64 3, rI .i64 (parseV (List.take (Int.toNat x85 - Int.toNat q.fAt) (List.drop (Int.toNat q.fAt) r1.2.fS))), rS ([] : Str), rI .i64 0]) (o_build51_0_1 rfl rfl rfl rfl) (w_buildSlice (ys := ([(TApiCell.mk 3 (parseV (List.take (Int.toNat x85 - Int.toNat q.fAt) (List.drop (Int.toNat q.fAt) r1.2.fS))) ([] : Str) 0)] : List TApiCell)) (enc := eTApiCell) (css := [[rI .i64 3, rI .i64 (parseV (List.take (Int.toNat x85 - Int.toNat q.fAt) (List.drop (Int.toNat q.fAt) r1.2.fS))), rS ([] : Str), rI .i64 0]]) (xs := [.tmp 99]) yu23 ys51 yz51 rfl rfl rfl ⟨Cel.agg ⟨Up.refl _, Up.refl _, Up.refl _, Up.refl _, trivial⟩, trivial⟩ rfl eTApiCell_len rfl rfl rfl (fun b118 => ?_)))))))))
   refine ck h116 fun g120 h121 => Exists.elim info51 fun inf hinf => w_append (xs := r1.2.fCells) (ys := ([(TApiCell.mk 3 (parseV (List.take (Int.toNat x85 - Int.toNat q.fAt) (List.drop (Int.toNat q.fAt) r1.2.fS))) ([] : Str) 0)] : List TApiCell)) (enc := eTApiCell) (i := 2) yu23 hinf.1 hinf.2.1 hinf.2.2.1 hinf.2.2.2 rfl rfl rfl rfl rfl (Src.w (i := 0) rfl rfl) eTApiCell_len eTApiCell_one g120 rfl (fun v119 => ?_)
   refine wv (o_nilcheck rfl) (vF yu72 rfl ys23 (u_store (i := 2) ys23 rfl rfl (one_row (i := 0) rfl) rfl rfl (cs' := [rS r1.2.fS, rI .i64 x85, rv v119, rB (r1.2.fGreat || (!decide ((parseE (List.take (Int.toNat x85 - Int.toNat q.fAt) (List.drop (Int.toNat q.fAt) r1.2.fS))) = 0)))]) rfl (H' := [.row v119 51 4 (List.map eTApiCell (r1.2.fCells ++ ([(TApiCell.mk 3 (parseV (List.take (Int.toNat x85 - Int.toNat q.fAt) (List.drop (Int.toNat q.fAt) r1.2.fS))) ([] : Str) 0)] : List TApiCell))), .row (.slice (some ⟨b118, 0, none⟩) 1 1) 51 4 (List.map eTApiCell ([(TApiCell.mk 3 (parseV (List.take (Int.toNat x85 - Int.toNat q.fAt) (List.drop (Int.toNat q.fAt) r1.2.fS))) ([] : Str) 0)] : List TApiCell)), .blk b_q [rS r1.2.fS, rI .i64 x85, rv v119, rB (r1.2.fGreat || (!decide ((parseE (List.take (Int.toNat x85 - Int.toNat q.fAt) (List.drop (Int.toNat q.fAt) r1.2.fS))) = 0)))] 72]) rfl (wl_y (wa rfl (wl_x (wc_ret (wk_perm (H2 := [.blk b_q [rS r1.2.fS, rI .i64 x85, rv v119, rB (r1.2.fGreat || (!decide ((parseE (List.take (Int.toNat x85 - Int.toNat q.fAt) (List.drop (Int.toNat q.fAt) r1.2.fS))) = 0)))] 72, .row v119 51 4 (List.map eTApiCell (r1.2.fCells ++ ([(TApiCell.mk 3 (parseV (List.take (Int.toNat x85 - Int.toNat q.fAt) (List.drop (Int.toNat q.fAt) r1.2.fS))) ([] : Str) 0)] : List TApiCell))), .row (.slice (some ⟨b118, 0, none⟩) 1 1) 51 4 (List.map eTApiCell ([(TApiCell.mk 3 (parseV (List.take (Int.toNat x85 - Int.toNat q.fAt) (List.drop (Int.toNat q.fAt) r1.2.fS))) ([] : Str) 0)] : List TApiCell))]) ((perm_front (i := 2) rfl).trans (List.Perm.cons _ (List.Perm.refl _))) ?_)))))))
   obtain rfl := some_e h121
   exact wk_ret (r_1 Tryz.results117 (rv_t rfl)) (sC (sC (sS sN))) ⟨v119, rfl, rfl⟩

theorem vRScalar_w (F : Nat) (b_q : Nat) (v_q_2 : Value) (q : TValueReader) (r : Bool × TValueReader) (h : vRScalar F q = some r) : Fn Tryz.prog GE 81 [rP b_q 0] [.blk b_q [rS q.fS, rI .i64 q.fAt, rv v_q_2, rB q.fGreat] 72, .row v_q_2 51 4 (List.map eTApiCell q.fCells)] (fun R H => ∃ w0_2 : Value, R = rB r.1 ∧ H = [.blk b_q [rS r.2.fS, rI .i64 r.2.fAt, rv w0_2, rB r.2.fGreat] 72, .row w0_2 51 4 (List.map eTApiCell r.2.fCells)]) := by
 refine enter (n := 75) Tryz.func81 rfl Tryz.ntmps81 rfl (fun w Z => ?_)
 unfold vRScalar at h
 refine wc_sr (wa rfl (wl_x (wc_seq_cut (S := (Str × Int × (List TApiCell) × Bool) × (Value)) (fun σ => vRScalar_j1 σ.1.1 σ.1.2.1 σ.1.2.2.1 σ.1.2.2.2 = some r) (fun σ => []) (fun σ => [.blk b_q [rS σ.1.1, rI .i64 σ.1.2.1, rv σ.2, rB σ.1.2.2.2] 72, .row σ.2 51 4 (List.map eTApiCell σ.1.2.2.1)]) ?_ ?_)))
 ·refine wc_block (wc_sr (wm rfl (ob h fun r62 e64 h63 => wcl (Hr := []) yk80 (vTake_w b_q v_q_2 q ([110, 117, 108, 108] : Str) r62 e64) rfl (List.Perm.refl _) rfl ?_)))
  rintro _ _ ⟨v65, rfl, rfl⟩
  refine wa rfl (wl_x (cz h63 rfl (fun c66 h67 => ?_) (fun c66 h72 => ?_)))
  ·refine wc_region (wm rfl (wm rfl (wv (o_nilcheck rfl) (vF yu72 rfl ys23 (vL 0 ya23 rfl (wv (r := rAgg [rI .i64 1, rI .i64 0, rS ([] : Str), rI .i64 0]) (o_build51_0 rfl rfl) (w_buildSlice (ys := ([(TApiCell.mk 1 0 ([] : Str) 0)] : List TApiCell)) (enc := eTApiCell) (css := [[rI .i64 1, rI .i64 0, rS ([] : Str), rI .i64 0]]) (xs := [.tmp 15]) yu23 ys51 yz51 rfl rfl rfl ⟨Cel.agg ⟨Up.refl _, Up.refl _, Up.refl _, Up.refl _, trivial⟩, trivial⟩ rfl eTApiCell_len rfl rfl rfl (fun b68 => ?_))))))))
   refine ck h67 fun g70 h71 => Exists.elim info51 fun inf hinf => w_append (xs := r62.2.fCells) (ys := ([(TApiCell.mk 1 0 ([] : Str) 0)] : List TApiCell)) (enc := eTApiCell) (i := 2) yu23 hinf.1 hinf.2.1 hinf.2.2.1 hinf.2.2.2 rfl rfl rfl rfl rfl (Src.w (i := 0) rfl rfl) eTApiCell_len eTApiCell_one g70 rfl (fun v69 => ?_)
   exact wv (o_nilcheck rfl) (vF yu72 rfl ys23 (u_store (i := 2) ys23 rfl rfl (one_row (i := 0) rfl) rfl rfl (cs' := [rS r62.2.fS, rI .i64 r62.2.fAt, rv v69, rB r62.2.fGreat]) rfl (H' := [.row v69 51 4 (List.map eTApiCell (r62.2.fCells ++ ([(TApiCell.mk 1 0 ([] : Str) 0)] : List TApiCell))), .row (.slice (some ⟨b68, 0, none⟩) 1 1) 51 4 (List.map eTApiCell ([(TApiCell.mk 1 0 ([] : Str) 0)] : List TApiCell)), .blk b_q [rS r62.2.fS, rI .i64 r62.2.fAt, rv v69, rB r62.2.fGreat] 72]) rfl (wl_nil (wk_in_norm (wk_perm (H2 := [.blk b_q [rS r62.2.fS, rI .i64 r62.2.fAt, rv v69, rB r62.2.fGreat] 72, .row v69 51 4 (List.map eTApiCell (r62.2.fCells ++ ([(TApiCell.mk 1 0 ([] : Str) 0)] : List TApiCell))), .row (.slice (some ⟨b68, 0, none⟩) 1 1) 51 4 (List.map eTApiCell ([(TApiCell.mk 1 0 ([] : Str) 0)] : List TApiCell))]) ((perm_front (i := 2) rfl).trans (List.Perm.cons _ (List.Perm.refl _))) (wk_then (wk_some ((r62.2.fS, r62.2.fAt, r62.2.fCells ++ ([(TApiCell.mk 1 0 ([] : Str) 0)] : List TApiCell), r62.2.fGreat), v69) h71 Sub.nil (sC (sC (sS sN))))))))))
  ·refine wc_sr (wm rfl (ob h72 fun r73 e75 h74 => wcl (Hr := []) yk80 (vTake_w b_q v65 r62.2 ([116, 114, 117, 101] : Str) r73 e75) rfl (List.Perm.refl _) rfl ?_))
   rintro _ _ ⟨v76, rfl, rfl⟩
   refine wa rfl (wl_x (cz h74 rfl (fun c77 h78 => ?_) (fun c77 h83 => ?_)))
   ·refine wc_region (wm rfl (wm rfl (wv (o_nilcheck rfl) (vF yu72 rfl ys23 (vL 0 ya23 rfl (wv (r := rAgg [rI .i64 2, rI .i64 1, rS ([] : Str), rI .i64 0]) (o_build51_0_1 rfl rfl rfl rfl) (w_buildSlice (ys := ([(TApiCell.mk 2 1 ([] : Str) 0)] : List TApiCell)) (enc := eTApiCell) (css := [[rI .i64 2, rI .i64 1, rS ([] : Str), rI .i64 0]]) (xs := [.tmp 28]) yu23 ys51 yz51 rfl rfl rfl ⟨Cel.agg ⟨Up.refl _, Up.refl _, Up.refl _, Up.refl _, trivial⟩, trivial⟩ rfl eTApiCell_len rfl rfl rfl (fun b79 => ?_))))))))
    refine ck h78 fun g81 h82 => Exists.elim info51 fun inf hinf => w_append (xs := r73.2.fCells) (ys := ([(TApiCell.mk 2 1 ([] : Str) 0)] : List TApiCell)) (enc := eTApiCell) (i := 2) yu23 hinf.1 hinf.2.1 hinf.2.2.1 hinf.2.2.2 rfl rfl rfl rfl rfl (Src.w (i := 0) rfl rfl) eTApiCell_len eTApiCell_one g81 rfl (fun v80 => ?_)
    exact wv (o_nilcheck rfl) (vF yu72 rfl ys23 (u_store (i := 2) ys23 rfl rfl (one_row (i := 0) rfl) rfl rfl (cs' := [rS r73.2.fS, rI .i64 r73.2.fAt, rv v80, rB r73.2.fGreat]) rfl (H' := [.row v80 51 4 (List.map eTApiCell (r73.2.fCells ++ ([(TApiCell.mk 2 1 ([] : Str) 0)] : List TApiCell))), .row (.slice (some ⟨b79, 0, none⟩) 1 1) 51 4 (List.map eTApiCell ([(TApiCell.mk 2 1 ([] : Str) 0)] : List TApiCell)), .blk b_q [rS r73.2.fS, rI .i64 r73.2.fAt, rv v80, rB r73.2.fGreat] 72]) rfl (wl_nil (wk_in_norm (wk_perm (H2 := [.blk b_q [rS r73.2.fS, rI .i64 r73.2.fAt, rv v80, rB r73.2.fGreat] 72, .row v80 51 4 (List.map eTApiCell (r73.2.fCells ++ ([(TApiCell.mk 2 1 ([] : Str) 0)] : List TApiCell))), .row (.slice (some ⟨b79, 0, none⟩) 1 1) 51 4 (List.map eTApiCell ([(TApiCell.mk 2 1 ([] : Str) 0)] : List TApiCell))]) ((perm_front (i := 2) rfl).trans (List.Perm.cons _ (List.Perm.refl _))) (wk_then (wk_some ((r73.2.fS, r73.2.fAt, r73.2.fCells ++ ([(TApiCell.mk 2 1 ([] : Str) 0)] : List TApiCell), r73.2.fGreat), v80) h82 Sub.nil (sC (sC (sS sN))))))))))
   ·refine wc_sr (wm rfl (ob h83 fun r84 e86 h85 => wcl (Hr := []) yk80 (vTake_w b_q v76 r73.2 ([102, 97, 108, 115, 101] : Str) r84 e86) rfl (List.Perm.refl _) rfl ?_))
    rintro _ _ ⟨v87, rfl, rfl⟩
    refine wa rfl (wl_x (cz h85 rfl (fun c88 h89 => ?_) (fun c88 h94 => ?_)))
    ·refine wc_region (wm rfl (wm rfl (wv (o_nilcheck rfl) (vF yu72 rfl ys23 (vL 0 ya23 rfl (wv (r := rAgg [rI .i64 2, rI .i64 0, rS ([] : Str), rI .i64 0]) (o_build51_0 rfl rfl) (w_buildSlice (ys := ([(TApiCell.mk 2 0 ([] : Str) 0)] : List TApiCell)) (enc := eTApiCell) (css := [[rI .i64 2, rI .i64 0, rS ([] : Str), rI .i64 0]]) (xs := [.tmp 41]) yu23 ys51 yz51 rfl rfl rfl ⟨Cel.agg ⟨Up.refl _, Up.refl _, Up.refl _, Up.refl _, trivial⟩, trivial⟩ rfl eTApiCell_len rfl rfl rfl (fun b90 => ?_))))))))
     refine ck h89 fun g92 h93 => Exists.elim info51 fun inf hinf => w_append (xs := r84.2.fCells) (ys := ([(TApiCell.mk 2 0 ([] : Str) 0)] : List TApiCell)) (enc := eTApiCell) (i := 2) yu23 hinf.1 hinf.2.1 hinf.2.2.1 hinf.2.2.2 rfl rfl rfl rfl rfl (Src.w (i := 0) rfl rfl) eTApiCell_len eTApiCell_one g92 rfl (fun v91 => ?_)
     exact wv (o_nilcheck rfl) (vF yu72 rfl ys23 (u_store (i := 2) ys23 rfl rfl (one_row (i := 0) rfl) rfl rfl (cs' := [rS r84.2.fS, rI .i64 r84.2.fAt, rv v91, rB r84.2.fGreat]) rfl (H' := [.row v91 51 4 (List.map eTApiCell (r84.2.fCells ++ ([(TApiCell.mk 2 0 ([] : Str) 0)] : List TApiCell))), .row (.slice (some ⟨b90, 0, none⟩) 1 1) 51 4 (List.map eTApiCell ([(TApiCell.mk 2 0 ([] : Str) 0)] : List TApiCell)), .blk b_q [rS r84.2.fS, rI .i64 r84.2.fAt, rv v91, rB r84.2.fGreat] 72]) rfl (wl_nil (wk_in_norm (wk_perm (H2 := [.blk b_q [rS r84.2.fS, rI .i64 r84.2.fAt, rv v91, rB r84.2.fGreat] 72, .row v91 51 4 (List.map eTApiCell (r84.2.fCells ++ ([(TApiCell.mk 2 0 ([] : Str) 0)] : List TApiCell))), .row (.slice (some ⟨b90, 0, none⟩) 1 1) 51 4 (List.map eTApiCell ([(TApiCell.mk 2 0 ([] : Str) 0)] : List TApiCell))]) ((perm_front (i := 2) rfl).trans (List.Perm.cons _ (List.Perm.refl _))) (wk_then (wk_some ((r84.2.fS, r84.2.fAt, r84.2.fCells ++ ([(TApiCell.mk 2 0 ([] : Str) 0)] : List TApiCell), r84.2.fGreat), v91) h93 Sub.nil (sC (sC (sS sN))))))))))
    ·refine wc_seq (ck h94 fun g95 h96 => ob h96 fun r97 e99 h98 => wc_rdq [0] [⟨[], rP b_q 0, 0⟩, ⟨[0], rP b_q 0, 0⟩, ⟨[1], rP b_q 0, 0⟩, ⟨[2], rS r84.2.fS, 1⟩, ⟨[], rP b_q 0, 0⟩, ⟨[4], rP b_q 0, 0⟩, ⟨[5], rP b_q 1, 0⟩, ⟨[6], rI .i64 r84.2.fAt, 1⟩, ⟨[3, 7], rS (List.drop (Int.toNat r84.2.fAt) r84.2.fS), 0⟩, ⟨[8], rB r97, 0⟩, ⟨[9], rB r97, 0⟩] [46, 0] ?_ ?_)
     ·refine oq (o_move rfl) (oq (o_nilcheck rfl) (oq (o_fieldAddr yu72 rfl ys9 rfl rfl) (of (o_load (i := 0) ya9 rfl rfl rfl) (oq (o_move rfl) (oq (o_nilcheck rfl) (oq (o_fieldAddr yu72 rfl ys3 rfl rfl) (of (o_load (i := 0) ya3 rfl rfl rfl) (oq (o_slice_lo yu9 rfl rfl g95) (obl_q rfl (fun H => ok_c0 Tryz.call105 (hasPrefix_w (List.drop (Int.toNat r84.2.fAt) r84.2.fS) ([34] : Str) r97 e99) rfl) ?_)))))))))
      refine oq (o_assign rfl) ?_
      exact obl_e
     refine wk_x (cz h98 rfl (fun c100 h101 => ?_) (fun c100 h113 => ?_))
     ·refine wc_sr (wm rfl (ob h101 fun r102 e104 h103 => wcl (Hr := []) Tryz.call82 (vRStr_w F b_q v87 r84.2 r102 e104) rfl (List.Perm.refl _) rfl ?_))
      rintro _ _ ⟨v105, rfl, rfl⟩
      refine wm rfl (wv (o_extract rfl rfl) (wv (o_extract rfl rfl) (wa rfl (wa rfl (wl_x (wc_seq (wc_sr (wm rfl (wv (o_not rfl) (wl_x (cz h103 rfl (fun c106 h107 => ?_) (fun c106 h108 => ?_))))))))))))
      ·refine wc_sr (wa rfl (wl_x (wc_ret (wk_then_ret (wk_in_ret (wk_then_ret ?_))))))
       obtain rfl := some_e h107
       exact wk_ret (r_1 Tryz.results81 (rv_t rfl)) (sC (sC sN)) ⟨v105, rfl, rfl⟩
      ·refine wc_skip (wk_x (wc_region (wm rfl (wm rfl (wv (o_nilcheck rfl) (vF yu72 rfl ys23 (vL 0 ya23 rfl (wm rfl (wv (r := rAgg [rI .i64 4, rI .i64 0, rS r102.1, rI .i64 0]) (o_build51_0_2 rfl rfl rfl rfl) (w_buildSlice (ys := ([(TApiCell.mk 4 0 r102.1 0)] : List TApiCell)) (enc := eTApiCell) (css := [[rI .i64 4, rI .i64 0, rS r102.1, rI .i64 0]]) (xs := [.tmp 70]) yu23 ys51 yz51 rfl rfl rfl ⟨Cel.agg ⟨Up.refl _, Up.refl _, Up.refl _, Up.refl _, trivial⟩, trivial⟩ rfl eTApiCell_len rfl rfl rfl (fun b109 => ?_)))))))))))
       refine ck h108 fun g111 h112 => Exists.elim info51 fun inf hinf => w_append (xs := r102.2.2.fCells) (ys := ([(TApiCell.mk 4 0 r102.1 0)] : List TApiCell)) (enc := eTApiCell) (i := 2) yu23 hinf.1 hinf.2.1 hinf.2.2.1 hinf.2.2.2 rfl rfl rfl rfl rfl (Src.w (i := 0) rfl rfl) eTApiCell_len eTApiCell_one g111 rfl (fun v110 => ?_)
       exact wv (o_nilcheck rfl) (vF yu72 rfl ys23 (u_store (i := 2) ys23 rfl rfl (one_row (i := 0) rfl) rfl rfl (cs' := [rS r102.2.2.fS, rI .i64 r102.2.2.fAt, rv v110, rB r102.2.2.fGreat]) rfl (H' := [.row v110 51 4 (List.map eTApiCell (r102.2.2.fCells ++ ([(TApiCell.mk 4 0 r102.1 0)] : List TApiCell))), .row (.slice (some ⟨b109, 0, none⟩) 1 1) 51 4 (List.map eTApiCell ([(TApiCell.mk 4 0 r102.1 0)] : List TApiCell)), .blk b_q [rS r102.2.2.fS, rI .i64 r102.2.2.fAt, rv v110, rB r102.2.2.fGreat] 72]) rfl (wl_nil (wk_in_norm (wk_perm (H2 := [.blk b_q [rS r102.2.2.fS, rI .i64 r102.2.2.fAt, rv v110, rB r102.2.2.fGreat] 72, .row v110 51 4 (List.map eTApiCell (r102.2.2.fCells ++ ([(TApiCell.mk 4 0 r102.1 0)] : List TApiCell))), .row (.slice (some ⟨b109, 0, none⟩) 1 1) 51 4 (List.map eTApiCell ([(TApiCell.mk 4 0 r102.1 0)] : List TApiCell))]) ((perm_front (i := 2) rfl).trans (List.Perm.cons _ (List.Perm.refl _))) (wk_then (wk_some ((r102.2.2.fS, r102.2.2.fAt, r102.2.2.fCells ++ ([(TApiCell.mk 4 0 r102.1 0)] : List TApiCell), r102.2.2.fGreat), v110) h112 Sub.nil (sC (sC (sS sN))))))))))
     ·refine wc_sr (wm rfl (ob h113 fun r114 e116 h115 => wcl (Hr := []) Tryz.call117 (vRInt_w F b_q v87 r84.2 r114 e116) rfl (List.Perm.refl _) rfl ?_))
      rintro _ _ ⟨v117, rfl, rfl⟩
      refine wa rfl (wl_x (wc_ret (wk_in_ret (wk_then_ret ?_))))
      obtain rfl := some_e h115
      exact wk_ret (r_1 Tryz.results81 (rv_t rfl)) (sC (sC sN)) ⟨v117, rfl, rfl⟩
 ·rintro ⟨⟨x57, x58, x59, x61⟩, v60⟩ h118
  refine wc_as (l' := []) (H' := [.blk b_q [rS x57, rI .i64 x58, rv v60, rB x61] 72, .row v60 51 4 (List.map eTApiCell x59)]) rfl rfl ?_
  replace h118 : vRScalar_j1 x57 x58 x59 x61 = some r := h118
  unfold vRScalar_j1 at h118
  refine wc_sr (wa rfl (wl_x (wc_ret ?_)))
  obtain rfl := some_e h118
  exact wk_ret (r_1 Tryz.results81 (rv_t rfl)) (sC (sC sN)) ⟨v60, rfl, rfl⟩

theorem vRValuem_w (F : Nat) (rec_vRValue : TValueReader → Option (Bool × TValueReader)) (ih_vRValue : (∀ (b_q : Nat) (v_q_2 : Value) (q : TValueReader) (r : Bool × TValueReader), rec_vRValue q = some r → Fn Tryz.prog GE 60 [rP b_q 0] [.blk b_q [rS q.fS, rI .i64 q.fAt, rv v_q_2, rB q.fGreat] 72, .row v_q_2 51 4 (List.map eTApiCell q.fCells)] (fun R H => ∃ w0_2 : Value, R = rB r.1 ∧ H = [.blk b_q [rS r.2.fS, rI .i64 r.2.fAt, rv w0_2, rB r.2.fGreat] 72, .row w0_2 51 4 (List.map eTApiCell r.2.fCells)]))) (b_q : Nat) (v_q_2 : Value) (q : TValueReader) (r : Bool × TValueReader) (h : vRValuem F rec_vRValue q = some r) : Fn Tryz.prog GE 60 [rP b_q 0] [.blk b_q [rS q.fS, rI .i64 q.fAt, rv v_q_2, rB q.fGreat] 72, .row v_q_2 51 4 (List.map eTApiCell q.fCells)] (fun R H => ∃ w0_2 : Value, R = rB r.1 ∧ H = [.blk b_q [rS r.2.fS, rI .i64 r.2.fAt, rv w0_2, rB r.2.fGreat] 72, .row w0_2 51 4 (List.map eTApiCell r.2.fCells)]) := by
 refine enter (n := 96) Tryz.func60 rfl Tryz.ntmps60 rfl (fun w Z => ?_)
 unfold vRValuem at h
 refine wc_sr (wa rfl (wl_y (wm rfl (ob h fun r1 e3 h2 => wcl (Hr := []) yk80 (vTake_w b_q v_q_2 q ([91] : Str) r1 e3) rfl (List.Perm.refl _) rfl ?_))))
 rintro _ _ ⟨v4, rfl, rfl⟩
 refine wa rfl (wl_x (wc_seq (wc_seq_cut (S := (Bool × Str × Int × (List TApiCell) × Bool) × (Value)) (fun σ => vRValue_j1 F rec_vRValue r1 σ.1.1 σ.1.2.1 σ.1.2.2.1 σ.1.2.2.2.1 σ.1.2.2.2.2 = some r) (fun σ => [(0, rP b_q 0), (2, rB false), (3, rB r1.1), (19, rB σ.1.1)]) (fun σ => [.blk b_q [rS σ.1.2.1, rI .i64 σ.1.2.2.1, rv σ.2, rB σ.1.2.2.2.2] 72, .row σ.2 51 4 (List.map eTApiCell σ.1.2.2.2.1)]) ?_ ?_)))
 ·refine wc_region (wm rfl (wv (o_not rfl) (wm rfl (bz h2 (fun c19 h20 => ?_) (fun c19 h25 => ?_)))))
  ·refine wo c19 (wm rfl (wo c19 (ob h20 fun r21 e23 h22 => wcl (Hr := []) yk80 (vTake_w b_q v4 r1.2 ([123] : Str) r21 e23) rfl (List.Perm.refl _) rfl ?_)))
   rintro _ _ ⟨v24, rfl, rfl⟩
   exact wo c19 (wv (o_not rfl) (wpt rfl c19 rfl (wl_nil (wk_then (wk_some ((!r21.1, r21.2.fS, r21.2.fAt, r21.2.fCells, r21.2.fGreat), v24) h22 (Sub.c rfl (Sub.c rfl (Sub.c rfl (Sub.c rfl Sub.nil)))) (sC (sC sN)))))))
  ·exact wf c19 (wf c19 (wf c19 (wv (r := rB false) (o_pick_f rfl c19 rfl) (wl_nil (wk_then (wk_some ((false, r1.2.fS, r1.2.fAt, r1.2.fCells, r1.2.fGreat), v4) h25 (Sub.c rfl (Sub.c rfl (Sub.c rfl (Sub.c rfl Sub.nil)))) (sC (sC sN))))))))
 ·rintro ⟨⟨x13, x14, x15, x16, x18⟩, v17⟩ h26
  refine wc_as (l' := [(0, rP b_q 0), (2, rB false), (3, rB r1.1), (19, rB x13)]) (H' := [.blk b_q [rS x14, rI .i64 x15, rv v17, rB x18] 72, .row v17 51 4 (List.map eTApiCell x16)]) rfl rfl ?_
  replace h26 : vRValue_j1 F rec_vRValue r1 x13 x14 x15 x16 x18 = some r := h26
  unfold vRValue_j1 at h26
  refine cz h26 rfl (fun c27 h28 => ?_) (fun c27 h33 => ?_)
  ·refine wc_sr (wm rfl (ob h28 fun r29 e31 h30 => wcl (Hr := []) Tryz.call81 (vRScalar_w F b_q v17 (TValueReader.mk x14 x15 x16 x18) r29 e31) rfl (List.Perm.refl _) rfl ?_))
   rintro _ _ ⟨v32, rfl, rfl⟩
   refine wa rfl (wl_x (wc_ret (wk_then_ret ?_)))
   obtain rfl := some_e h30
   exact wk_ret (r_1 yr60 (rv_t rfl)) (sC (sC sN)) ⟨v32, rfl, rfl⟩
  ·refine wc_skip (wk_x (wc_sr (wa rfl (wv (r := rS ([125] : Str)) (o_assign rfl) (wl_x (wc_seq (wc_sr (wm rfl (wl_x (cz h33 rfl (fun c34 h35 => ?_) (fun c34 h183 => ?_)))))))))))
   ·refine wc_region (wa rfl (wv (r := rS ([93] : Str)) (o_assign rfl) (wl_y (wm rfl (wv (o_nilcheck rfl) (vF yu72 rfl ys23 (vL 0 ya23 rfl (wv (o_len_wt (ys := x16) (enc := eTApiCell) (i := 1) yu23 rfl rfl) (wa rfl (wl_y (wm rfl (wm rfl (wv (o_nilcheck rfl) (vF yu72 rfl ys23 (vL 0 ya23 rfl (wm rfl (wv (r := rAgg [rI .i64 5, rI .i64 0, rS ([] : Str), rI .i64 0]) (o_build51_0 rfl rfl) (w_buildSlice (ys := ([(TApiCell.mk 5 0 ([] : Str) 0)] : List TApiCell)) (enc := eTApiCell) (css := [[rI .i64 5, rI .i64 0, rS ([] : Str), rI .i64 0]]) (xs := [.tmp 34]) yu23 ys51 yz51 rfl rfl rfl ⟨Cel.agg ⟨Up.refl _, Up.refl _, Up.refl _, Up.refl _, trivial⟩, trivial⟩ rfl eTApiCell_len rfl rfl rfl (fun b36 => ?_)))))))))))))))))))
    refine ck h35 fun g38 h39 => Exists.elim info51 fun inf hinf => w_append (xs := x16) (ys := ([(TApiCell.mk 5 0 ([] : Str) 0)] : List TApiCell)) (enc := eTApiCell) (i := 2) yu23 hinf.1 hinf.2.1 hinf.2.2.1 hinf.2.2.2 rfl rfl rfl rfl rfl (Src.w (i := 0) rfl rfl) eTApiCell_len eTApiCell_one g38 rfl (fun v37 => ?_)
    refine wv (o_nilcheck rfl) (vF yu72 rfl ys23 (u_store (i := 2) ys23 rfl rfl (one_row (i := 0) rfl) rfl rfl (cs' := [rS x14, rI .i64 x15, rv v37, rB x18]) rfl (H' := [.row v37 51 4 (List.map eTApiCell (x16 ++ ([(TApiCell.mk 5 0 ([] : Str) 0)] : List TApiCell))), .row (.slice (some ⟨b36, 0, none⟩) 1 1) 51 4 (List.map eTApiCell ([(TApiCell.mk 5 0 ([] : Str) 0)] : List TApiCell)), .blk b_q [rS x14, rI .i64 x15, rv v37, rB x18] 72]) rfl (wl_x (wc_seq (wc_sr (wm rfl (wm rfl (ob h39 fun r40 e42 h41 => wcl (Hr := [.row (.slice (some ⟨b36, 0, none⟩) 1 1) 51 4 (List.map eTApiCell ([(TApiCell.mk 5 0 ([] : Str) 0)] : List TApiCell))]) yk80 (vTake_w b_q v37 (TValueReader.mk x14 x15 (x16 ++ ([(TApiCell.mk 5 0 ([] : Str) 0)] : List TApiCell)) x18) ([93] : Str) r40 e42) rfl ((perm_front (i := 2) rfl).trans (List.Perm.cons _ (List.Perm.refl _))) rfl ?_))))))))
    rintro _ _ ⟨v43, rfl, rfl⟩
    refine wl_x (cz h41 rfl (fun c44 h45 => ?_) (fun c44 h46 => ?_))
    ·refine wc_sr (wa rfl (wl_x (wc_ret (wk_then_ret ?_))))
     obtain rfl := some_e h45
     exact wk_ret (r_1 yr60 (rv_t rfl)) (sC (sC (sS sN))) ⟨v43, rfl, rfl⟩
    ·refine wc_skip (wk_x (wc_sr (wv (r := rS ([] : Str)) (o_assign rfl) (wl_y (wa rfl (wl_x (wc_block (ob h46 fun o141 eo142 hK143 => wc_loop2 (S := Nat × (Int × Str × Int × (List TApiCell) × Bool) × (Value)) (V := (Unit) × (Unit)) 0 (fun σ => lop (fun σ => vRValue_b2 rec_vRValue x16 σ.1 σ.2.1 σ.2.2.1 σ.2.2.2.1 σ.2.2.2.2) σ.1 σ.2.1 = some o141) (fun σ => [(0, rP b_q 0), (2, rB false), (3, rB r1.1), (5, rS ([93] : Str)), (6, rI .i64 (x16.length : Int)), (7, rS ([] : Str)), (8, rI .i64 σ.2.1.1)]) (fun σ => [.blk b_q [rS σ.2.1.2.1, rI .i64 σ.2.1.2.2.1, rv σ.2.2, rB σ.2.1.2.2.2.2] 72, .row σ.2.2 51 4 (List.map eTApiCell σ.2.1.2.2.2.1)]) (fun σ => σ.1) (F, (1, r40.2.fS, r40.2.fAt, r40.2.fCells, r40.2.fGreat), v43) eo142 (Sub.c rfl (Sub.c rfl (Sub.c5 rfl rfl rfl rfl rfl Sub.nil))) (sC (sC (sS sN))) (fun σ => vRValue_k2  = some r) (fun σ => []) (fun σ => []) ?_ ?_))))))))
     ·rintro ⟨n149, ⟨x107, x108, x109, x110, x112⟩, v111⟩ hi147
      refine wc_as (l' := [(0, rP b_q 0), (2, rB false), (3, rB r1.1), (5, rS ([93] : Str)), (6, rI .i64 (x16.length : Int)), (7, rS ([] : Str)), (8, rI .i64 x107)]) (H' := [.blk b_q [rS x108, rI .i64 x109, rv v111, rB x112] 72, .row v111 51 4 (List.map eTApiCell x110)]) rfl rfl ?_
      obtain ⟨m146, rfl, t144, h148, ht145⟩ := lop_e hi147
      replace h148 : vRValue_b2 rec_vRValue x16 x107 x108 x109 x110 x112 = some t144 := h148
      unfold vRValue_b2 at h148
      refine wc_seq (wc_block (wc_seq (wc_sr (wm rfl (wv (o_not rfl) (wl_x (wc_cond_f rfl (not_t c34) (wc_skip (wk_x (wc_seq (wc_sr (wm rfl (ob h148 fun r150 e152 h151 => wcl (Hr := []) Tryz.call60 (ih_vRValue b_q v111 (TValueReader.mk x108 x109 x110 x112) r150 e152) rfl (List.Perm.refl _) rfl ?_)))))))))))))
      rintro _ _ ⟨v153, rfl, rfl⟩
      refine wv (o_not rfl) (wl_x (cz h151 rfl (fun c154 h155 => ?_) (fun c154 h157 => ?_)))
      ·refine wc_sr (wa rfl (wl_x (wc_ret (wk_then_ret (wk_in_ret (wk_then_ret (wk_then_ret (wk_cut_ret ?_))))))))
       have h156 := stp_ret h155 ht145 hK143
       refine wk_in_ret ?_
       obtain rfl := some_e h156
       exact wk_ret (r_1 yr60 (rv_t rfl)) (sC (sC sN)) ⟨v153, rfl, rfl⟩
      ·refine wc_skip (wk_x (wc_sr (wm rfl (wv (o_nilcheck rfl) (vF yu72 rfl ys23 (vL 0 ya23 rfl (wm rfl (wm rfl (ck h157 fun g158 h159 => wv (r := rv (elp 4 v153 (Int.toNat (x16.length : Int)) 0)) (o_ix_w (i := 1) yu23 ys51 rfl rfl rfl (len_map g158)) (wv (r := rv (elp 4 v153 (Int.toNat (x16.length : Int)) 3)) (o_fa_w (k := 1) yu51 rfl ys3 rfl (len_map g158) rfl rfl rfl) (u_st_w (enc := eTApiCell) (ys := r150.2.fCells) (y' := (TApiCell.mk ((at' r150.2.fCells (x16.length : Int)).fKind) ((at' r150.2.fCells (x16.length : Int)).fInt) ((at' r150.2.fCells (x16.length : Int)).fStr) x107)) (i := 1) (j := (x16.length : Int)) ys3 rfl rfl (one_c rfl) rfl g158 rfl rfl (H' := [.blk b_q [rS r150.2.fS, rI .i64 r150.2.fAt, rv v153, rB r150.2.fGreat] 72, .row v153 51 4 (List.map eTApiCell (List.set r150.2.fCells (Int.toNat (x16.length : Int)) (TApiCell.mk ((at' r150.2.fCells (x16.length : Int)).fKind) ((at' r150.2.fCells (x16.length : Int)).fInt) ((at' r150.2.fCells (x16.length : Int)).fStr) x107)))]) rfl (bd h159 fun r160 e162 h161 => ?_))))))))))))
       rw [← e162]
       refine wl_x (wc_seq (wc_sr (wm rfl (wm rfl (ob h161 fun r163 e165 h164 => wcl (Hr := []) yk80 (vTake_w b_q v153 (TValueReader.mk r150.2.fS r150.2.fAt r160 r150.2.fGreat) ([93] : Str) r163 e165) rfl (List.Perm.refl _) rfl ?_)))))
       rintro _ _ ⟨v166, rfl, rfl⟩
       refine wl_x (cz h164 rfl (fun c167 h168 => ?_) (fun c167 h170 => ?_))
       ·refine wc_sr (wa rfl (wl_x (wc_ret (wk_then_ret (wk_in_ret (wk_then_ret (wk_then_ret (wk_cut_ret ?_))))))))
        have h169 := stp_ret h168 ht145 hK143
        refine wk_in_ret ?_
        obtain rfl := some_e h169
        exact wk_ret (r_1 yr60 (rv_t rfl)) (sC (sC sN)) ⟨v166, rfl, rfl⟩
       ·refine wc_skip (wk_x (wc_sr (wm rfl (ob h170 fun r171 e173 h172 => wcl (Hr := []) yk80 (vTake_w b_q v166 r163.2 ([44] : Str) r171 e173) rfl (List.Perm.refl _) rfl ?_))))
        rintro _ _ ⟨v174, rfl, rfl⟩
        refine wv (o_not rfl) (wl_x (cz h172 rfl (fun c175 h176 => ?_) (fun c175 h178 => ?_)))
        ·refine wc_sr (wa rfl (wl_x (wc_ret (wk_in_ret (wk_then_ret (wk_then_ret (wk_cut_ret ?_)))))))
         have h177 := stp_ret h176 ht145 hK143
         refine wk_in_ret ?_
         obtain rfl := some_e h177
         exact wk_ret (r_1 yr60 (rv_t rfl)) (sC (sC sN)) ⟨v174, rfl, rfl⟩
        ·refine wc_skip (wk_in_norm (wk_x (wc_region (wm rfl (ck h178 fun g179 h180 => wv (o_add rfl rfl g179) (wa rfl (wl_nil ?_)))))))
         have h181 := stp_next h180 ht145
         exact wk_then (wk_some (m146, (x107 + 1, r171.2.fS, r171.2.fAt, r171.2.fCells, r171.2.fGreat), v174) ⟨h181, Nat.lt_succ_self _⟩ (Sub.c rfl (Sub.c rfl (Sub.c5 rfl rfl rfl rfl rfl Sub.nil))) (sC (sC sN)))
     ·rintro ⟨⟨⟩, ⟨⟩⟩ h182
      cases h182
   ·refine wc_skip (wk_x (wc_sr (wm rfl (wv (o_nilcheck rfl) (vF yu72 rfl ys23 (vL 0 ya23 rfl (wv (o_len_wt (ys := x16) (enc := eTApiCell) (i := 1) yu23 rfl rfl) (wa rfl (wl_y (wm rfl (wm rfl (wv (o_nilcheck rfl) (vF yu72 rfl ys23 (vL 0 ya23 rfl (wm rfl (wv (r := rAgg [rI .i64 6, rI .i64 0, rS ([] : Str), rI .i64 0]) (o_build51_0 rfl rfl) (w_buildSlice (ys := ([(TApiCell.mk 6 0 ([] : Str) 0)] : List TApiCell)) (enc := eTApiCell) (css := [[rI .i64 6, rI .i64 0, rS ([] : Str), rI .i64 0]]) (xs := [.tmp 34]) yu23 ys51 yz51 rfl rfl rfl ⟨Cel.agg ⟨Up.refl _, Up.refl _, Up.refl _, Up.refl _, trivial⟩, trivial⟩ rfl eTApiCell_len rfl rfl rfl (fun b184 => ?_))))))))))))))))))
    refine ck h183 fun g186 h187 => Exists.elim info51 fun inf hinf => w_append (xs := x16) (ys := ([(TApiCell.mk 6 0 ([] : Str) 0)] : List TApiCell)) (enc := eTApiCell) (i := 2) yu23 hinf.1 hinf.2.1 hinf.2.2.1 hinf.2.2.2 rfl rfl rfl rfl rfl (Src.w (i := 0) rfl rfl) eTApiCell_len eTApiCell_one g186 rfl (fun v185 => ?_)
    refine wv (o_nilcheck rfl) (vF yu72 rfl ys23 (u_store (i := 2) ys23 rfl rfl (one_row (i := 0) rfl) rfl rfl (cs' := [rS x14, rI .i64 x15, rv v185, rB x18]) rfl (H' := [.row v185 51 4 (List.map eTApiCell (x16 ++ ([(TApiCell.mk 6 0 ([] : Str) 0)] : List TApiCell))), .row (.slice (some ⟨b184, 0, none⟩) 1 1) 51 4 (List.map eTApiCell ([(TApiCell.mk 6 0 ([] : Str) 0)] : List TApiCell)), .blk b_q [rS x14, rI .i64 x15, rv v185, rB x18] 72]) rfl (wl_x (wc_seq (wc_sr (wm rfl (wm rfl (ob h187 fun r188 e190 h189 => wcl (Hr := [.row (.slice (some ⟨b184, 0, none⟩) 1 1) 51 4 (List.map eTApiCell ([(TApiCell.mk 6 0 ([] : Str) 0)] : List TApiCell))]) yk80 (vTake_w b_q v185 (TValueReader.mk x14 x15 (x16 ++ ([(TApiCell.mk 6 0 ([] : Str) 0)] : List TApiCell)) x18) ([125] : Str) r188 e190) rfl ((perm_front (i := 2) rfl).trans (List.Perm.cons _ (List.Perm.refl _))) rfl ?_))))))))
    rintro _ _ ⟨v191, rfl, rfl⟩
    refine wl_x (cz h189 rfl (fun c192 h193 => ?_) (fun c192 h194 => ?_))
    ·refine wc_sr (wa rfl (wl_x (wc_ret (wk_then_ret ?_))))
     obtain rfl := some_e h193
     exact wk_ret (r_1 yr60 (rv_t rfl)) (sC (sC (sS sN))) ⟨v191, rfl, rfl⟩
    ·refine wc_skip (wk_x (wc_sr (wv (r := rS ([] : Str)) (o_assign rfl) (wl_y (wa rfl (wl_x (wc_block (ob h194 fun o440 eo441 hK442 => wc_loop2 (S := Nat × (Str × Int × Str × Int × (List TApiCell) × Bool) × (Value)) (V := (Unit) × (Unit)) 0 (fun σ => lop (fun σ => vRValue_b3 F rec_vRValue x16 σ.1 σ.2.1 σ.2.2.1 σ.2.2.2.1 σ.2.2.2.2.1 σ.2.2.2.2.2) σ.1 σ.2.1 = some o440) (fun σ => [(0, rP b_q 0), (2, rB false), (3, rB r1.1), (5, rS ([125] : Str)), (6, rI .i64 (x16.length : Int)), (7, rS σ.2.1.1), (8, rI .i64 σ.2.1.2.1)]) (fun σ => [.blk b_q [rS σ.2.1.2.2.1, rI .i64 σ.2.1.2.2.2.1, rv σ.2.2, rB σ.2.1.2.2.2.2.2] 72, .row σ.2.2 51 4 (List.map eTApiCell σ.2.1.2.2.2.2.1)]) (fun σ => σ.1) (F, (([] : Str), 1, r188.2.fS, r188.2.fAt, r188.2.fCells, r188.2.fGreat), v191) eo441 (Sub.c rfl (Sub.c rfl (Sub.c5 rfl rfl rfl rfl rfl Sub.nil))) (sC (sC (sS sN))) (fun σ => vRValue_k3  = some r) (fun σ => []) (fun σ => []) ?_ ?_))))))))
     ·rintro ⟨n448, ⟨x348, x349, x350, x351, x352, x354⟩, v353⟩ hi446
      refine wc_as (l' := [(0, rP b_q 0), (2, rB false), (3, rB r1.1), (5, rS ([125] : Str)), (6, rI .i64 (x16.length : Int)), (7, rS x348), (8, rI .i64 x349)]) (H' := [.blk b_q [rS x350, rI .i64 x351, rv v353, rB x354] 72, .row v353 51 4 (List.map eTApiCell x352)]) rfl rfl ?_
      obtain ⟨m445, rfl, t443, h447, ht444⟩ := lop_e hi446
      replace h447 : vRValue_b3 F rec_vRValue x16 x348 x349 x350 x351 x352 x354 = some t443 := h447
      unfold vRValue_b3 at h447
      refine wc_seq (wc_block (wc_seq (wc_sr (wm rfl (wv (o_not rfl) (wl_x (wc_cond_t rfl (not_f c34) (wc_sr (wm rfl (ob h447 fun r449 e451 h450 => wcl (Hr := []) Tryz.call82 (vRStr_w F b_q v353 (TValueReader.mk x350 x351 x352 x354) r449 e451) rfl (List.Perm.refl _) rfl ?_))))))))))
      rintro _ _ ⟨v452, rfl, rfl⟩
      refine wm rfl (wv (o_extract rfl rfl) (wv (o_extract rfl rfl) (wa rfl (wa rfl (wl_x (wc_seq (wc_seq_cut (S := (Bool × Bool × Bool × Str × Int × (List TApiCell) × Bool) × (Value)) (fun σ => vRValue_j4 rec_vRValue x16 x349 r449 σ.1.1 σ.1.2.1 σ.1.2.2.1 σ.1.2.2.2.1 σ.1.2.2.2.2.1 σ.1.2.2.2.2.2.1 σ.1.2.2.2.2.2.2 = some t443) (fun σ => [(0, rP b_q 0), (2, rB false), (3, rB r1.1), (5, rS ([125] : Str)), (6, rI .i64 (x16.length : Int)), (7, rS x348), (8, rI .i64 x349), (9, rS r449.1), (10, rB r449.2.1), (44, rB r1.1), (45, rB (!r1.1)), (46, rTup [rS r449.1, rB r449.2.1]), (47, rP b_q 0), (48, rTup [rS r449.1, rB r449.2.1]), (49, rS r449.1), (50, rB r449.2.1), (51, rB r449.2.1), (52, rB (!r449.2.1)), (53, rB (!r449.2.1)), (61, rB σ.1.1), (62, rB σ.1.2.1), (66, rB σ.1.2.2.1)]) (fun σ => [.blk b_q [rS σ.1.2.2.2.1, rI .i64 σ.1.2.2.2.2.1, rv σ.2, rB σ.1.2.2.2.2.2.2] 72, .row σ.2 51 4 (List.map eTApiCell σ.1.2.2.2.2.2.1)]) ?_ ?_)))))))
      ·refine wc_region (wm rfl (wv (o_not rfl) (wm rfl (bz h450 (fun c481 h482 => ?_) (fun c481 h483 => ?_)))))
       ·exact wf c481 (wf c481 (wf c481 (wu (wu (wu (wf c481 (wv (r := rB true) (o_pick_t rfl c481 rfl) (wm rfl (wz rfl rfl (wz rfl rfl (wz rfl rfl (wv (r := rB true) (o_pick_t (b := true) rfl rfl rfl) (wl_nil (wk_then (wk_some ((true, true, true, r449.2.2.fS, r449.2.2.fAt, r449.2.2.fCells, r449.2.2.fGreat), v452) h482 (Sub.c rfl (Sub.c rfl (Sub.c5 rfl rfl rfl rfl rfl (Sub.c5 rfl rfl rfl rfl rfl (Sub.c5 rfl rfl rfl rfl rfl (Sub.c5 rfl rfl rfl rfl rfl Sub.nil)))))) (sC (sC sN)))))))))))))))))
       ·refine wo c481 (wm rfl (wo c481 (wv (o_gt rfl rfl) (wo c481 (wm rfl (bz h483 (fun c484 h485 => ?_) (fun c484 h493 => ?_)))))))
        ·refine wo c484 (wm rfl (wo c484 (wm rfl (wo c484 (wv (o_sle rfl rfl) (wo c481 (wpt rfl c484 rfl (wpf rfl c481 rfl (wm rfl (bz h485 (fun c486 h487 => ?_) (fun c486 h488 => ?_)))))))))))
         ·exact wf c486 (wf c486 (wf c486 (wv (r := rB true) (o_pick_t rfl c486 rfl) (wl_nil (wk_then (wk_some ((sLess r449.1 x348 || decide (r449.1 = x348), sLess r449.1 x348 || decide (r449.1 = x348), true, r449.2.2.fS, r449.2.2.fAt, r449.2.2.fCells, r449.2.2.fGreat), v452) h487 (Sub.c rfl (Sub.c rfl (Sub.c5 rfl rfl rfl rfl rfl (Sub.c5 rfl rfl rfl rfl rfl (Sub.c5 rfl rfl rfl rfl rfl (Sub.c5 rfl rfl rfl rfl rfl Sub.nil)))))) (sC (sC sN))))))))
         ·refine wo c486 (wm rfl (wo c486 (ob h488 fun r489 e491 h490 => wcl (Hr := []) yk80 (vTake_w b_q v452 r449.2.2 ([58] : Str) r489 e491) rfl (List.Perm.refl _) rfl ?_)))
          rintro _ _ ⟨v492, rfl, rfl⟩
          exact wo c486 (wv (o_not rfl) (wpf rfl c486 rfl (wl_nil (wk_then (wk_some ((sLess r449.1 x348 || decide (r449.1 = x348), sLess r449.1 x348 || decide (r449.1 = x348), !r489.1, r489.2.fS, r489.2.fAt, r489.2.fCells, r489.2.fGreat), v492) h490 (Sub.c rfl (Sub.c rfl (Sub.c5 rfl rfl rfl rfl rfl (Sub.c5 rfl rfl rfl rfl rfl (Sub.c5 rfl rfl rfl rfl rfl (Sub.c5 rfl rfl rfl rfl rfl Sub.nil)))))) (sC (sC sN)))))))
        ·refine wf c484 (wf c484 (wf c484 (wo c481 (wv (r := rB false) (o_pick_f rfl c484 rfl) (wpf rfl c481 rfl (wm rfl (wl_on (b := false) rfl rfl rfl (wm rfl (wl_on (b := false) rfl rfl rfl (ob h493 fun r494 e496 h495 => wcl (Hr := []) yk80 (vTake_w b_q v452 r449.2.2 ([58] : Str) r494 e496) rfl (List.Perm.refl _) rfl ?_))))))))))
         rintro _ _ ⟨v497, rfl, rfl⟩
         exact wl_on (b := false) rfl rfl rfl (wv (o_not rfl) (wv (r := rB (!r494.1)) (o_pick_f (b := false) rfl rfl rfl) (wl_nil (wk_then (wk_some ((false, false, !r494.1, r494.2.fS, r494.2.fAt, r494.2.fCells, r494.2.fGreat), v497) h495 (Sub.c rfl (Sub.c rfl (Sub.c5 rfl rfl rfl rfl rfl (Sub.c5 rfl rfl rfl rfl rfl (Sub.c5 rfl rfl rfl rfl rfl (Sub.c5 rfl rfl rfl rfl rfl Sub.nil)))))) (sC (sC sN)))))))
      ·rintro ⟨⟨x473, x474, x475, x476, x477, x478, x480⟩, v479⟩ h498
       refine wc_as (l' := [(0, rP b_q 0), (2, rB false), (3, rB r1.1), (5, rS ([125] : Str)), (6, rI .i64 (x16.length : Int)), (7, rS x348), (8, rI .i64 x349), (9, rS r449.1), (10, rB r449.2.1), (44, rB r1.1), (45, rB (!r1.1)), (46, rTup [rS r449.1, rB r449.2.1]), (47, rP b_q 0), (48, rTup [rS r449.1, rB r449.2.1]), (49, rS r449.1), (50, rB r449.2.1), (51, rB r449.2.1), (52, rB (!r449.2.1)), (53, rB (!r449.2.1)), (61, rB x473), (62, rB x474), (66, rB x475)]) (H' := [.blk b_q [rS x476, rI .i64 x477, rv v479, rB x480] 72, .row v479 51 4 (List.map eTApiCell x478)]) rfl rfl ?_
       replace h498 : vRValue_j4 rec_vRValue x16 x349 r449 x473 x474 x475 x476 x477 x478 x480 = some t443 := h498
       unfold vRValue_j4 at h498
       refine cz h498 rfl (fun c499 h500 => ?_) (fun c499 h502 => ?_)
       ·refine wc_sr (wa rfl (wl_x (wc_ret (wk_then_ret (wk_then_ret (wk_in_ret (wk_then_ret (wk_then_ret (wk_cut_ret ?_)))))))))
        have h501 := stp_ret h500 ht444 hK442
        refine wk_in_ret ?_
        obtain rfl := some_e h501
        exact wk_ret (r_1 yr60 (rv_t rfl)) (sC (sC sN)) ⟨v479, rfl, rfl⟩
       ·refine wc_skip (wk_x (wc_sr (wm rfl (wa rfl (wl_x (wc_region (wm rfl (wm rfl (wv (o_nilcheck rfl) (vF yu72 rfl ys23 (vL 0 ya23 rfl (wm rfl (wv (r := rAgg [rI .i64 4, rI .i64 0, rS r449.1, rI .i64 0]) (o_build51_0_2 rfl rfl rfl rfl) (w_buildSlice (ys := ([(TApiCell.mk 4 0 r449.1 0)] : List TApiCell)) (enc := eTApiCell) (css := [[rI .i64 4, rI .i64 0, rS r449.1, rI .i64 0]]) (xs := [.tmp 74]) yu23 ys51 yz51 rfl rfl rfl ⟨Cel.agg ⟨Up.refl _, Up.refl _, Up.refl _, Up.refl _, trivial⟩, trivial⟩ rfl eTApiCell_len rfl rfl rfl (fun b503 => ?_)))))))))))))))
        refine ck h502 fun g505 h506 => Exists.elim info51 fun inf hinf => w_append (xs := x478) (ys := ([(TApiCell.mk 4 0 r449.1 0)] : List TApiCell)) (enc := eTApiCell) (i := 2) yu23 hinf.1 hinf.2.1 hinf.2.2.1 hinf.2.2.2 rfl rfl rfl rfl rfl (Src.w (i := 0) rfl rfl) eTApiCell_len eTApiCell_one g505 rfl (fun v504 => ?_)
        refine wv (o_nilcheck rfl) (vF yu72 rfl ys23 (u_store (i := 2) ys23 rfl rfl (one_row (i := 0) rfl) rfl rfl (cs' := [rS x476, rI .i64 x477, rv v504, rB x480]) rfl (H' := [.row v504 51 4 (List.map eTApiCell (x478 ++ ([(TApiCell.mk 4 0 r449.1 0)] : List TApiCell))), .row (.slice (some ⟨b503, 0, none⟩) 1 1) 51 4 (List.map eTApiCell ([(TApiCell.mk 4 0 r449.1 0)] : List TApiCell)), .blk b_q [rS x476, rI .i64 x477, rv v504, rB x480] 72]) rfl (wl_x (wc_seq (wc_sr (wm rfl (ob h506 fun r507 e509 h508 => wcl (Hr := [.row (.slice (some ⟨b503, 0, none⟩) 1 1) 51 4 (List.map eTApiCell ([(TApiCell.mk 4 0 r449.1 0)] : List TApiCell))]) Tryz.call60 (ih_vRValue b_q v504 (TValueReader.mk x476 x477 (x478 ++ ([(TApiCell.mk 4 0 r449.1 0)] : List TApiCell)) x480) r507 e509) rfl ((perm_front (i := 2) rfl).trans (List.Perm.cons _ (List.Perm.refl _))) rfl ?_)))))))
        rintro _ _ ⟨v510, rfl, rfl⟩
        refine wv (o_not rfl) (wl_x (cz h508 rfl (fun c511 h512 => ?_) (fun c511 h514 => ?_)))
        ·refine wc_sr (wa rfl (wl_x (wc_ret (wk_then_ret (wk_in_ret (wk_then_ret (wk_then_ret (wk_cut_ret ?_))))))))
         have h513 := stp_ret h512 ht444 hK442
         refine wk_in_ret ?_
         obtain rfl := some_e h513
         exact wk_ret (r_1 yr60 (rv_t rfl)) (sC (sC (sS sN))) ⟨v510, rfl, rfl⟩
        ·refine wc_skip (wk_x (wc_sr (wm rfl (wv (o_nilcheck rfl) (vF yu72 rfl ys23 (vL 0 ya23 rfl (wm rfl (wm rfl (ck h514 fun g515 h516 => wv (r := rv (elp 4 v510 (Int.toNat (x16.length : Int)) 0)) (o_ix_w (i := 1) yu23 ys51 rfl rfl rfl (len_map g515)) (wv (r := rv (elp 4 v510 (Int.toNat (x16.length : Int)) 3)) (o_fa_w (k := 1) yu51 rfl ys3 rfl (len_map g515) rfl rfl rfl) (u_st_w (enc := eTApiCell) (ys := r507.2.fCells) (y' := (TApiCell.mk ((at' r507.2.fCells (x16.length : Int)).fKind) ((at' r507.2.fCells (x16.length : Int)).fInt) ((at' r507.2.fCells (x16.length : Int)).fStr) x349)) (i := 1) (j := (x16.length : Int)) ys3 rfl rfl (one_c rfl) rfl g515 rfl rfl (H' := [.blk b_q [rS r507.2.fS, rI .i64 r507.2.fAt, rv v510, rB r507.2.fGreat] 72, .row v510 51 4 (List.map eTApiCell (List.set r507.2.fCells (Int.toNat (x16.length : Int)) (TApiCell.mk ((at' r507.2.fCells (x16.length : Int)).fKind) ((at' r507.2.fCells (x16.length : Int)).fInt) ((at' r507.2.fCells (x16.length : Int)).fStr) x349))), .row (.slice (some ⟨b503, 0, none⟩) 1 1) 51 4 (List.map eTApiCell ([(TApiCell.mk 4 0 r449.1 0)] : List TApiCell))]) rfl (bd h516 fun r517 e519 h518 => ?_))))))))))))
         rw [← e519]
         refine wl_x (wc_seq (wc_sr (wm rfl (wm rfl (ob h518 fun r520 e522 h521 => wcl (Hr := [.row (.slice (some ⟨b503, 0, none⟩) 1 1) 51 4 (List.map eTApiCell ([(TApiCell.mk 4 0 r449.1 0)] : List TApiCell))]) yk80 (vTake_w b_q v510 (TValueReader.mk r507.2.fS r507.2.fAt r517 r507.2.fGreat) ([125] : Str) r520 e522) rfl (List.Perm.refl _) rfl ?_)))))
         rintro _ _ ⟨v523, rfl, rfl⟩
         refine wl_x (cz h521 rfl (fun c524 h525 => ?_) (fun c524 h527 => ?_))
         ·refine wc_sr (wa rfl (wl_x (wc_ret (wk_then_ret (wk_in_ret (wk_then_ret (wk_then_ret (wk_cut_ret ?_))))))))
          have h526 := stp_ret h525 ht444 hK442
          refine wk_in_ret ?_
          obtain rfl := some_e h526
          exact wk_ret (r_1 yr60 (rv_t rfl)) (sC (sC (sS sN))) ⟨v523, rfl, rfl⟩
         ·refine wc_skip (wk_x (wc_sr (wm rfl (ob h527 fun r528 e530 h529 => wcl (Hr := [.row (.slice (some ⟨b503, 0, none⟩) 1 1) 51 4 (List.map eTApiCell ([(TApiCell.mk 4 0 r449.1 0)] : List TApiCell))]) yk80 (vTake_w b_q v523 r520.2 ([44] : Str) r528 e530) rfl (List.Perm.refl _) rfl ?_))))
          rintro _ _ ⟨v531, rfl, rfl⟩
          refine wv (o_not rfl) (wl_x (cz h529 rfl (fun c532 h533 => ?_) (fun c532 h535 => ?_)))
          ·refine wc_sr (wa rfl (wl_x (wc_ret (wk_in_ret (wk_then_ret (wk_then_ret (wk_cut_ret ?_)))))))
           have h534 := stp_ret h533 ht444 hK442
           refine wk_in_ret ?_
           obtain rfl := some_e h534
           exact wk_ret (r_1 yr60 (rv_t rfl)) (sC (sC (sS sN))) ⟨v531, rfl, rfl⟩
          ·refine wc_skip (wk_in_norm (wk_x (wc_region (wm rfl (ck h535 fun g536 h537 => wv (o_add rfl rfl g536) (wa rfl (wl_nil ?_)))))))
           have h538 := stp_next h537 ht444
           exact wk_then (wk_some (m445, (r449.1, x349 + 1, r528.2.fS, r528.2.fAt, r528.2.fCells, r528.2.fGreat), v531) ⟨h538, Nat.lt_succ_self _⟩ (Sub.c rfl (Sub.c rfl (Sub.c5 rfl rfl rfl rfl rfl Sub.nil))) (sC (sC (sS sN))))
     ·rintro ⟨⟨⟩, ⟨⟩⟩ h539
      cases h539

theorem vRValue_all : ∀ F : Nat, (∀ (b_q : Nat) (v_q_2 : Value) (q : TValueReader) (r : Bool × TValueReader), vRValue F q = some r → Fn Tryz.prog GE 60 [rP b_q 0] [.blk b_q [rS q.fS, rI .i64 q.fAt, rv v_q_2, rB q.fGreat] 72, .row v_q_2 51 4 (List.map eTApiCell q.fCells)] (fun R H => ∃ w0_2 : Value, R = rB r.1 ∧ H = [.blk b_q [rS r.2.fS, rI .i64 r.2.fAt, rv w0_2, rB r.2.fGreat] 72, .row w0_2 51 4 (List.map eTApiCell r.2.fCells)]))
  | 0 => (fun _ _ _ _ h => by simp [vRValue] at h)
  | nn + 1 => (fun b_q v_q_2 q r h => vRValuem_w nn (vRValue nn) (vRValue_all nn) b_q v_q_2 q r (by rw [vRValue] at h; exact h))

theorem vRValue_w (F : Nat) (b_q : Nat) (v_q_2 : Value) (q : TValueReader) (r : Bool × TValueReader) (h : vRValue F q = some r) : Fn Tryz.prog GE 60 [rP b_q 0] [.blk b_q [rS q.fS, rI .i64 q.fAt, rv v_q_2, rB q.fGreat] 72, .row v_q_2 51 4 (List.map eTApiCell q.fCells)] (fun R H => ∃ w0_2 : Value, R = rB r.1 ∧ H = [.blk b_q [rS r.2.fS, rI .i64 r.2.fAt, rv w0_2, rB r.2.fGreat] 72, .row w0_2 51 4 (List.map eTApiCell r.2.fCells)]) := (vRValue_all F) b_q v_q_2 q r h

theorem vDecode_w (F : Nat) (s : Str) (r : (List TApiCell) × Int) (h : vDecode F s = some r) : Fn Tryz.prog GE 30 [rS s] [] (fun R H => R = rTup [rSl 4 (List.map eTApiCell r.1), rI .i64 r.2] ∧ H = []) := by
 refine enter (n := 34) Tryz.func30 rfl Tryz.ntmps30 rfl (fun w Z => ?_)
 unfold vDecode at h
 refine wc_sr (wa rfl (wa rfl (wl_x (wc_seq (wc_sr (wm rfl (wv (o_len_s yu9 rfl) (wv (o_gt rfl rfl) (wl_x (cz h rfl (fun c1 h2 => ?_) (fun c1 h3 => ?_)))))))))))
 ·refine wc_sr (wa rfl (wa rfl (wl_x (wc_ret (wk_then_ret (WK.up (d := 2) (r := rSl 4 (List.map eTApiCell ([] : List TApiCell))) rfl (Up.le (Rle.nil _)) ?_))))))
  obtain rfl := some_e h2
  exact wk_ret (r_2 yr30 (rv_t rfl) (rv_t rfl)) sN ⟨rfl, rfl⟩
 ·refine wc_skip (wk_x (wc_sr (wm rfl (wv (r := rAgg [rS s, rI .i64 0, rv (.slice none 0 0), rB false]) (o_build72_0 rfl rfl) (w_box_agg rfl rfl (fun b4 => ?_))))))
  refine wa rfl (wl_x (wc_seq (wc_seq_cut (S := (Bool × Str × Int × (List TApiCell) × Bool) × (Value)) (fun σ => vDecode_j1 F σ.1.1 σ.1.2.1 σ.1.2.2.1 σ.1.2.2.2.1 σ.1.2.2.2.2 = some r) (fun σ => [(2, rv (.slice none 0 0)), (3, rI .i64 0), (4, rP b4 0), (22, rB σ.1.1)]) (fun σ => [.blk b4 [rS σ.1.2.1, rI .i64 σ.1.2.2.1, rv σ.2, rB σ.1.2.2.2.2] 72, .row σ.2 51 4 (List.map eTApiCell σ.1.2.2.2.1)]) ?_ ?_)))
  ·refine wc_region (wm rfl (WL.nilrow (e := 51) (sz := 4) (ob h3 fun r18 e20 h19 => wcl (Hr := []) Tryz.call60 (vRValue_w F b4 (.slice none 0 0                                                   ) (TValueReader.mk s 0 ([] : List TApiCell) false) r18 e20) rfl ((perm_front (i := 1) rfl).trans (List.Perm.cons _ (List.Perm.refl _))) rfl ?_)))
   rintro _ _ ⟨v21, rfl, rfl⟩
   refine wv (o_not rfl) (wm rfl (bz h19 (fun c22 h23 => ?_) (fun c22 h24 => ?_)))
   ·exact wf c22 (wf c22 (wf c22 (wf c22 (wf c22 (wf c22 (wf c22 (wv (r := rB true) (o_pick_t rfl c22 rfl) (wl_nil (wk_then (wk_some ((true, r18.2.fS, r18.2.fAt, r18.2.fCells, r18.2.fGreat), v21) h23 (Sub.c rfl (Sub.c rfl (Sub.c rfl (Sub.c rfl Sub.nil)))) (sC (sC sN))))))))))))
   ·exact wo c22 (wm rfl (wo c22 (wv (o_nilcheck rfl) (wo c22 (vF yu72 rfl ys3 (wo c22 (vL 0 ya3 rfl (wo c22 (wm rfl (wo c22 (wv (o_len_s yu9 rfl) (wo c22 (wv (o_ne rfl rfl) (wpf rfl c22 rfl (wl_nil (wk_then (wk_some ((!decide (r18.2.fAt = (s.length : Int)), r18.2.fS, r18.2.fAt, r18.2.fCells, r18.2.fGreat), v21) h24 (Sub.c rfl (Sub.c rfl (Sub.c rfl (Sub.c rfl Sub.nil)))) (sC (sC sN)))))))))))))))))))
  ·rintro ⟨⟨x12, x13, x14, x15, x17⟩, v16⟩ h25
   refine wc_as (l' := [(2, rv (.slice none 0 0)), (3, rI .i64 0), (4, rP b4 0), (22, rB x12)]) (H' := [.blk b4 [rS x13, rI .i64 x14, rv v16, rB x17] 72, .row v16 51 4 (List.map eTApiCell x15)]) rfl rfl ?_
   replace h25 : vDecode_j1 F x12 x13 x14 x15 x17 = some r := h25
   unfold vDecode_j1 at h25
   refine cz h25 rfl (fun c26 h27 => ?_) (fun c26 h28 => ?_)
   ·refine wc_sr (wa rfl (wa rfl (wl_x (wc_ret (wk_then_ret (WK.up (d := 2) (r := rSl 4 (List.map eTApiCell ([] : List TApiCell))) rfl (Up.le (Rle.nil _)) ?_))))))
    obtain rfl := some_e h27
    exact wk_ret (r_2 yr30 (rv_t rfl) (rv_t rfl)) (sS (sS sN)) ⟨rfl, rfl⟩
   ·refine wc_skip (wk_x (wc_seq (wc_sr (wm rfl (wv (o_nilcheck rfl) (vF yu72 rfl ys4 (vL 0 ya4 rfl (wl_x (cz h28 rfl (fun c29 h30 => ?_) (fun c29 h31 => ?_))))))))))
    ·refine wc_sr (wa rfl (wa rfl (wl_x (wc_ret (wk_then_ret (WK.up (d := 2) (r := rSl 4 (List.map eTApiCell ([] : List TApiCell))) rfl (Up.le (Rle.nil _)) ?_))))))
     obtain rfl := some_e h30
     exact wk_ret (r_2 yr30 (rv_t rfl) (rv_t rfl)) (sS (sS sN)) ⟨rfl, rfl⟩
    ·refine wc_skip (wk_x (wc_sr (wm rfl (wv (o_nilcheck rfl) (vF yu72 rfl ys23 (vL 0 ya23 rfl (WL.freeze (i := 1) rfl (WL.up (d := 30) (r := rSl 4 (List.map eTApiCell x15)) rfl (Up.fact (i := 0) rfl) (ob h31 fun r32 e34 h33 => wc0 Tryz.call61 (vChecked_w F x15 r32 e34) rfl (wv (o_extract rfl rfl) (wv (o_extract rfl rfl) (wa rfl (wa rfl (wl_x (wc_ret ?_)))))))))))))))
     obtain rfl := some_e h33
     exact wk_ret (r_2 yr30 (rv_t rfl) (rv_t rfl)) (sS (sS sN)) ⟨rfl, rfl⟩

end Go.Proofs.YtpmiamphppcfeaaGreatDoor.Q

/-
 What functions compute, with checks: plain definitions, printed by a small program of ours (gq.py). No program in sight.
-/
namespace Go.Proofs.YtpmiamphppcfeaaGreatDoor
open Go
set_option linter.unusedVariables false
def slEqual_b1 (a : (List TApiCell)) (b : (List TApiCell)) (x27 : Int) : Option (Stp (Int) (Out (Bool) (Unit))) :=
 cnd (decide (x27 < (a.length : Int))) (chk (inR x27 (a.length : Int)) <| chk (inR x27 (b.length : Int)) <| cnd (!(decide (((at' a x27).fKind) = ((at' b x27).fKind)) && decide (((at' a x27).fInt) = ((at' b x27).fInt)) && decide (((at' a x27).fStr) = ((at' b x27).fStr)) && decide (((at' a x27).fN) = ((at' b x27).fN)))) (some (.out (.ret false))) (chk (inK .i64 (x27 + 1)) <| some (.next (x27 + 1)))) (some (.out (.go ())))

def slEqual_k1  : Option (Bool) :=
 some true

def slEqual (F : Nat) (a : (List TApiCell)) (b : (List TApiCell)) : Option (Bool) :=
 cnd (!decide ((a.length : Int) = (b.length : Int))) (some false) (obn (lop (fun σ => slEqual_b1 a b σ) F 0) (oute fun ν => slEqual_k1 ))

def rSame_b1 (a : (List TApiCell)) (b : (List TApiCell)) (x27 : Int) : Option (Stp (Int) (Out (Bool) (Unit))) :=
 cnd (decide (x27 < (a.length : Int))) (chk (inR x27 (a.length : Int)) <| chk (inR x27 (b.length : Int)) <| cnd (!(decide (((at' a x27).fKind) = ((at' b x27).fKind)) && decide (((at' a x27).fInt) = ((at' b x27).fInt)) && decide (((at' a x27).fStr) = ((at' b x27).fStr)) && decide (((at' a x27).fN) = ((at' b x27).fN)))) (some (.out (.ret false))) (chk (inK .i64 (x27 + 1)) <| some (.next (x27 + 1)))) (some (.out (.go ())))

def rSame_k1  : Option (Bool) :=
 some true

def rSame (F : Nat) (a : (List TApiCell)) (b : (List TApiCell)) : Option (Bool) :=
 cnd (!decide ((a.length : Int) = (b.length : Int))) (some false) (obn (lop (fun σ => rSame_b1 a b σ) F 0) (oute fun ν => rSame_k1 ))

end Go.Proofs.YtpmiamphppcfeaaGreatDoor

/-
  Walks, printed by a small program of ours (gq.py).
-/
namespace Go.Proofs.YtpmiamphppcfeaaGreatDoor.Q
open Go Go.RowKit
set_option linter.unusedVariables false
set_option linter.unusedSimpArgs false
set_option maxRecDepth 100000
set_option maxHeartbeats 4000000
theorem agg_eq51 {a0 b0 : Int} {a1 b1 : Int} {a2 b2 : Str} {a3 b3 : Int} (w : World) : (Op.equalIn 10000 51 (.agg #[.int .i64 a0, .int .i64 a1, .string (B a2), .int .i64 a3]) (.agg #[.int .i64 b0, .int .i64 b1, .string (B b2), .int .i64 b3])).run Tryz.prog w = .ok (decide (a0 = b0) && decide (a1 = b1) && decide (a2 = b2) && decide (a3 = b3)) w := by
  have hS : Tryz.prog.underlying 51 = some (.struct (Tryz.prog.fieldsOf 51)) := by kernel_rfl
  have hp : Tryz.prog.stoodInHeld 51 = false := by kernel_rfl
  have u3 := yu3
  have ia3 := ya3
  have so3 := ys3
  have u9 := yu9
  have ia9 := ya9
  have so9 := ys9
  have u49 := Tryz.underlying49
  have ia49 := ya49
  have so49 := ys49
  rw [show (10000 : Nat) = 9999 + 1 from rfl, run_equalIn_agg w 9999 51 _ _ hS hp]
  simp only [Program.fieldsOf, yu51]
  go_simp
  simp only [B_toList]
  by_cases h0 : a0 = b0 <;> by_cases h1 : a1 = b1 <;> by_cases h2 : a2 = b2 <;> by_cases h3 : a3 = b3 <;> simp [h0, h1, h2, h3]
theorem o_agg_ne_51 {n : Nat} {c : Cx} {l : Fr} {H : List Ent} {d : Option Nat} {ty rty : TypeId} {pos : String} {af : Array Edge} {g : Option (Nat × Bool)} {x y : Operand} {a0 b0 : Int} {a1 b1 : Int} {a2 b2 : Str} {a3 b3 : Int} (hx : ev l x = some (rAgg [rI .i64 a0, rI .i64 a1, rS a2, rI .i64 a3])) (hy : ev l y = some (rAgg [rI .i64 b0, rI .i64 b1, rS b2, rI .i64 b3])) : ORun Tryz.prog n c l H { dst := d, op := .binOp .neq 51 x y rty, type := ty, pos := pos, after := af, guard := g } (rB (!(decide (a0 = b0) && decide (a1 = b1) && decide (a2 = b2) && decide (a3 = b3)))) := fun a w Z ha hw => by
  obtain ⟨us, e1, q1⟩ := ha.ev hx
  obtain ⟨vs, e2, q2⟩ := ha.ev hy
  have k1 := RpAll.eq_rv (us := [.int .i64 a0, .int .i64 a1, .string (B a2), .int .i64 a3]) q1
  have k2 := RpAll.eq_rv (us := [.int .i64 b0, .int .i64 b1, .string (B b2), .int .i64 b3]) q2
  subst k1; subst k2
  have hm : Tryz.prog.eqGuardType Tryz.prog.depth 51 = false := by kernel_rfl
  have hb := agg_eq51 (a0 := a0) (a1 := a1) (a2 := a2) (a3 := a3) (b0 := b0) (b1 := b1) (b2 := b2) (b3 := b3) w
  refine ⟨.bool (!(decide (a0 = b0) && decide (a1 = b1) && decide (a2 = b2) && decide (a3 = b3))), rfl, ?_⟩
  have hg := run_eqGuard_agg (P := Tryz.prog) w .neq 51 x y #[.int .i64 a0, .int .i64 a1, .string (B a2), .int .i64 a3] #[.int .i64 b0, .int .i64 b1, .string (B b2), .int .i64 b3] hm
  simp only [execOp, e1, e2, Sem.run_bind, hg, Result.andThen_ok, run_neq_struct, hb, Sem.run_pure]
theorem slEqual_w (F : Nat) (a : (List TApiCell)) (b : (List TApiCell)) (r : Bool) (h : slEqual F a b = some r) : Fn Tryz.prog GE 35 [rSl 4 (List.map eTApiCell a), rSl 4 (List.map eTApiCell b)] [] (fun R H => R = rB r ∧ H = []) := by
 refine enter (n := 26) Tryz.func35 rfl Tryz.ntmps35 rfl (fun w Z => ?_)
 unfold slEqual at h
 refine wc_sr (wa rfl (wl_x (wc_seq (wc_sr (wm rfl (wv (o_len_zt (ys := a) (enc := eTApiCell) yu23 rfl) (wm rfl (wv (o_len_zt (ys := b) (enc := eTApiCell) yu23 rfl) (wv (o_ne rfl rfl) (wl_x (cz h rfl (fun c1 h2 => ?_) (fun c1 h3 => ?_))))))))))))
 ·refine wc_sr (wa rfl (wl_x (wc_ret (wk_then_ret ?_))))
  obtain rfl := some_e h2
  exact wk_ret (r_1 Tryz.results35 (rv_t rfl)) sN ⟨rfl, rfl⟩
 ·refine wc_skip (wk_x (wc_seq (wc_sr (wm rfl (wv (o_len_zt (ys := a) (enc := eTApiCell) yu23 rfl) (wv (r := rI .i64 0) (o_move rfl) (wl_x (wc_block (ob h3 fun o40 eo41 hK42 => wc_loop2 (S := Nat × (Int) × (Unit)) (V := (Unit) × (Unit)) 0 (fun σ => lop (fun σ => slEqual_b1 a b σ) σ.1 σ.2.1 = some o40) (fun σ => [(0, rSl 4 (List.map eTApiCell a)), (1, rSl 4 (List.map eTApiCell b)), (12, rI .i64 (a.length : Int)), (13, rI .i64 σ.2.1)]) (fun σ => []) (fun σ => σ.1) (F, 0, ()) eo41 (Sub.c rfl (Sub.c rfl (Sub.c rfl (Sub.c rfl Sub.nil)))) sN (fun σ => slEqual_k1  = some r) (fun σ => []) (fun σ => []) ?_ ?_)))))))))
  ·rintro ⟨n48, x27, ⟨⟩⟩ hi46
   refine wc_as (l' := [(0, rSl 4 (List.map eTApiCell a)), (1, rSl 4 (List.map eTApiCell b)), (12, rI .i64 (a.length : Int)), (13, rI .i64 x27)]) (H' := []) rfl rfl ?_
   obtain ⟨m45, rfl, t43, h47, ht44⟩ := lop_e hi46
   replace h47 : slEqual_b1 a b x27 = some t43 := h47
   unfold slEqual_b1 at h47
   refine wc_sr (wv (o_lt rfl rfl) (wl_x (wc_seq (cz h47 rfl (fun c49 h50 => ?_) (fun c49 h62 => ?_)))))
   ·refine wc_skip (wk_x (wc_seq (wc_block (wc_sr (wm rfl (wa rfl (wl_x (wc_seq (ck h50 fun g51 h52 => ck h52 fun g53 h54 => wc_rdq [0, 1, 5, 12, 13] [⟨[], rSl 4 (List.map eTApiCell a), 0⟩, ⟨[], rI .i64 x27, 0⟩, ⟨[0, 1], rAt (eTApiCell (at' a x27)), 0⟩, ⟨[2], rAgg (eTApiCell (at' a x27)), 0⟩, ⟨[], rSl 4 (List.map eTApiCell b), 0⟩, ⟨[], rI .i64 x27, 0⟩, ⟨[4, 5], rAt (eTApiCell (at' b x27)), 0⟩, ⟨[6], rAgg (eTApiCell (at' b x27)), 0⟩, ⟨[3, 7], rB (!(decide (((at' a x27).fKind) = ((at' b x27).fKind)) && decide (((at' a x27).fInt) = ((at' b x27).fInt)) && decide (((at' a x27).fStr) = ((at' b x27).fStr)) && decide (((at' a x27).fN) = ((at' b x27).fN)))), 0⟩] [16, 17, 18, 19, 20, 21, 22, 23, 24, 0, 1, 12, 13] ?_ ?_)))))))))
    ·refine oq (o_move rfl) (oq (o_move rfl) (oq (o_ix_z (enc := eTApiCell) (ys := a) yu23 ys51 rfl rfl g51) (oq (o_load_za ya51 ys51 rfl rfl rfl) (oq (o_move rfl) (oq (o_move rfl) (oq (o_ix_z (enc := eTApiCell) (ys := b) yu23 ys51 rfl rfl g53) (oq (o_load_za ya51 ys51 rfl rfl rfl) (oq (o_agg_ne_51 rfl rfl) ?_))))))))
     exact obl_e
    refine wk_x (cz h54 rfl (fun c55 h56 => ?_) (fun c55 h58 => ?_))
    ·refine wc_sr (wa rfl (wl_x (wc_ret (wk_in_ret (wk_then_ret (wk_then_ret (wk_cut_ret ?_)))))))
     have h57 := stp_ret h56 ht44 hK42
     refine wk_in_ret (wk_then_ret ?_)
     obtain rfl := some_e h57
     exact wk_ret (r_1 Tryz.results35 (rv_t rfl)) sN ⟨rfl, rfl⟩
    ·refine wc_skip (wk_in_norm (wk_x (wc_region (ck h58 fun g59 h60 => wv (o_add rfl rfl g59) (wm rfl (wl_nil ?_))))))
     have h61 := stp_next h60 ht44
     exact wk_then (wk_some (m45, x27 + 1, ()) ⟨h61, Nat.lt_succ_self _⟩ (Sub.c rfl (Sub.c rfl (Sub.c rfl (Sub.c rfl Sub.nil)))) sN)
   ·refine wc_exit (wk_then_exit ?_)
    have h63 := stp_go h62 ht44 hK42
    exact wk_then_exit (wk_cut_hit (wk_some ((), ()) h63 Sub.nil sN))
  ·rintro ⟨⟨⟩, ⟨⟩⟩ h64
   refine wk_as (l' := []) (H' := []) rfl rfl ?_
   replace h64 : slEqual_k1  = some r := h64
   unfold slEqual_k1 at h64
   refine wk_in_hit (wk_x (wc_sr (wa rfl (wl_x (wc_ret ?_)))))
   obtain rfl := some_e h64
   exact wk_ret (r_1 Tryz.results35 (rv_t rfl)) sN ⟨rfl, rfl⟩

theorem rSame_w (F : Nat) (a : (List TApiCell)) (b : (List TApiCell)) (r : Bool) (h : rSame F a b = some r) : Fn Tryz.prog GE 34 [rSl 4 (List.map eTApiCell a), rSl 4 (List.map eTApiCell b)] [] (fun R H => R = rB r ∧ H = []) := by
 refine enter (n := 26) Tryz.func34 rfl Tryz.ntmps34 rfl (fun w Z => ?_)
 unfold rSame at h
 refine wc_sr (wa rfl (wl_x (wc_seq (wc_sr (wm rfl (wv (o_len_zt (ys := a) (enc := eTApiCell) yu23 rfl) (wm rfl (wv (o_len_zt (ys := b) (enc := eTApiCell) yu23 rfl) (wv (o_ne rfl rfl) (wl_x (cz h rfl (fun c1 h2 => ?_) (fun c1 h3 => ?_))))))))))))
 ·refine wc_sr (wa rfl (wl_x (wc_ret (wk_then_ret ?_))))
  obtain rfl := some_e h2
  exact wk_ret (r_1 Tryz.results34 (rv_t rfl)) sN ⟨rfl, rfl⟩
 ·refine wc_skip (wk_x (wc_seq (wc_sr (wa rfl (wl_x (wc_block (ob h3 fun o40 eo41 hK42 => wc_loop2 (S := Nat × (Int) × (Unit)) (V := (Unit) × (Unit)) 0 (fun σ => lop (fun σ => rSame_b1 a b σ) σ.1 σ.2.1 = some o40) (fun σ => [(0, rSl 4 (List.map eTApiCell a)), (1, rSl 4 (List.map eTApiCell b)), (5, rI .i64 σ.2.1)]) (fun σ => []) (fun σ => σ.1) (F, 0, ()) eo41 (Sub.c rfl (Sub.c rfl (Sub.c rfl Sub.nil))) sN (fun σ => rSame_k1  = some r) (fun σ => []) (fun σ => []) ?_ ?_)))))))
  ·rintro ⟨n48, x27, ⟨⟩⟩ hi46
   refine wc_as (l' := [(0, rSl 4 (List.map eTApiCell a)), (1, rSl 4 (List.map eTApiCell b)), (5, rI .i64 x27)]) (H' := []) rfl rfl ?_
   obtain ⟨m45, rfl, t43, h47, ht44⟩ := lop_e hi46
   replace h47 : rSame_b1 a b x27 = some t43 := h47
   unfold rSame_b1 at h47
   refine wc_seq (wc_sr (wm rfl (wm rfl (wv (o_len_zt (ys := a) (enc := eTApiCell) yu23 rfl) (wv (o_lt rfl rfl) (wl_x (cz h47 rfl (fun c49 h50 => ?_) (fun c49 h62 => ?_))))))))
   ·refine wc_skip (wk_x (wc_seq (wc_block (wc_seq (ck h50 fun g51 h52 => ck h52 fun g53 h54 => wc_rdq [0, 1, 5] [⟨[], rSl 4 (List.map eTApiCell a), 0⟩, ⟨[], rI .i64 x27, 0⟩, ⟨[0, 1], rAt (eTApiCell (at' a x27)), 0⟩, ⟨[2], rAgg (eTApiCell (at' a x27)), 0⟩, ⟨[], rSl 4 (List.map eTApiCell b), 0⟩, ⟨[], rI .i64 x27, 0⟩, ⟨[4, 5], rAt (eTApiCell (at' b x27)), 0⟩, ⟨[6], rAgg (eTApiCell (at' b x27)), 0⟩, ⟨[3, 7], rB (!(decide (((at' a x27).fKind) = ((at' b x27).fKind)) && decide (((at' a x27).fInt) = ((at' b x27).fInt)) && decide (((at' a x27).fStr) = ((at' b x27).fStr)) && decide (((at' a x27).fN) = ((at' b x27).fN)))), 0⟩] [17, 18, 19, 20, 21, 22, 23, 24, 25, 0, 1, 5] ?_ ?_)))))
    ·refine oq (o_move rfl) (oq (o_move rfl) (oq (o_ix_z (enc := eTApiCell) (ys := a) yu23 ys51 rfl rfl g51) (oq (o_load_za ya51 ys51 rfl rfl rfl) (oq (o_move rfl) (oq (o_move rfl) (oq (o_ix_z (enc := eTApiCell) (ys := b) yu23 ys51 rfl rfl g53) (oq (o_load_za ya51 ys51 rfl rfl rfl) (oq (o_agg_ne_51 rfl rfl) ?_))))))))
     exact obl_e
    refine wk_x (cz h54 rfl (fun c55 h56 => ?_) (fun c55 h58 => ?_))
    ·refine wc_sr (wa rfl (wl_x (wc_ret (wk_in_ret (wk_then_ret (wk_then_ret (wk_cut_ret ?_)))))))
     have h57 := stp_ret h56 ht44 hK42
     refine wk_in_ret (wk_then_ret ?_)
     obtain rfl := some_e h57
     exact wk_ret (r_1 Tryz.results34 (rv_t rfl)) sN ⟨rfl, rfl⟩
    ·refine wc_skip (wk_in_norm (wk_x (wc_region (wm rfl (ck h58 fun g59 h60 => wv (o_add rfl rfl g59) (wa rfl (wl_nil ?_)))))))
     have h61 := stp_next h60 ht44
     exact wk_then (wk_some (m45, x27 + 1, ()) ⟨h61, Nat.lt_succ_self _⟩ (Sub.c rfl (Sub.c rfl (Sub.c rfl Sub.nil))) sN)
   ·refine wc_exit (wk_then_exit ?_)
    have h63 := stp_go h62 ht44 hK42
    exact wk_then_exit (wk_cut_hit (wk_some ((), ()) h63 Sub.nil sN))
  ·rintro ⟨⟨⟩, ⟨⟩⟩ h64
   refine wk_as (l' := []) (H' := []) rfl rfl ?_
   replace h64 : rSame_k1  = some r := h64
   unfold rSame_k1 at h64
   refine wk_in_hit (wk_x (wc_sr (wa rfl (wl_x (wc_ret ?_)))))
   obtain rfl := some_e h64
   exact wk_ret (r_1 Tryz.results34 (rv_t rfl)) sN ⟨rfl, rfl⟩

end Go.Proofs.YtpmiamphppcfeaaGreatDoor.Q

/-
 What functions compute, with checks: plain definitions, printed by a small program of ours (gq.py). No program in sight.
-/
namespace Go.Proofs.YtpmiamphppcfeaaGreatDoor
open Go
set_option linter.unusedVariables false
def rChecked (F : Nat) (v : (List TApiCell)) : Option ((List TApiCell) × Int) :=
 obn (rCheck F v) fun r1 => cnd (!decide (r1 = 0)) (some (([] : List TApiCell), r1)) (some (v, 0))

def rNull  : Option ((List TApiCell)) :=
 some ([(TApiCell.mk 1 0 ([] : Str) 0)] : List TApiCell)

def rBool (b : Bool) : Option ((List TApiCell)) :=
 cnd (b) (some ([(TApiCell.mk 2 1 ([] : Str) 0)] : List TApiCell)) (some ([(TApiCell.mk 2 0 ([] : Str) 0)] : List TApiCell))

def rStarts (s : Str) (at_ : Int) (word : Str) : Option (Bool) :=
 chk (inK .i64 (at_ + (word.length : Int))) <| chk (imp (decide ((at_ + (word.length : Int)) ≤ (s.length : Int))) (inC at_ (at_ + (word.length : Int)))) <| chk (imp (decide ((at_ + (word.length : Int)) ≤ (s.length : Int))) (inC (at_ + (word.length : Int)) (s.length : Int))) <| some ((decide ((at_ + (word.length : Int)) ≤ (s.length : Int))) && (decide ((List.take (Int.toNat (at_ + (word.length : Int)) - Int.toNat at_) (List.drop (Int.toNat at_) s)) = word)))

def rReadString_b1 (s : Str) (x246 : Str) (x247 : Int) : Option (Stp (Str × Int) (Out (Str × Int) (Str × Int))) :=
 chk (imp (decide (x247 < (s.length : Int))) (inR x247 (s.length : Int))) <| cnd (((decide (x247 < (s.length : Int))) && (!decide ((bat s x247) = 34)))) (chk (inR x247 (s.length : Int)) <| cnd (decide ((bat s x247) = 92)) (chk (inK .i64 (x247 + 1)) <| chk (imp (!(decide ((s.length : Int) ≤ (x247 + 1)))) (inR (x247 + 1) (s.length : Int))) <| cnd (((decide ((s.length : Int) ≤ (x247 + 1))) || ((!decide ((bat s (x247 + 1)) = 34)) && (!decide ((bat s (x247 + 1)) = 92))))) (some (.out (.ret (([] : Str), (-1))))) (chk (inK .i64 ((x247 + 1) + 1)) <| chk (inC (x247 + 1) ((x247 + 1) + 1)) <| chk (inC ((x247 + 1) + 1) (s.length : Int)) <| chk (inK .i64 ((x246.length : Int) + ((List.take (Int.toNat ((x247 + 1) + 1) - Int.toNat (x247 + 1)) (List.drop (Int.toNat (x247 + 1)) s)).length : Int))) <| some (.next (x246 ++ (List.take (Int.toNat ((x247 + 1) + 1) - Int.toNat (x247 + 1)) (List.drop (Int.toNat (x247 + 1)) s)), (x247 + 1) + 1)))) (chk (inK .i64 (x247 + 1)) <| chk (inC x247 (x247 + 1)) <| chk (inC (x247 + 1) (s.length : Int)) <| chk (inK .i64 ((x246.length : Int) + ((List.take (Int.toNat (x247 + 1) - Int.toNat x247) (List.drop (Int.toNat x247) s)).length : Int))) <| some (.next (x246 ++ (List.take (Int.toNat (x247 + 1) - Int.toNat x247) (List.drop (Int.toNat x247) s)), x247 + 1)))) (some (.out (.go (x246, x247))))

def rReadString_k1 (s : Str) (x284 : Str) (x285 : Int) : Option (Str × Int) :=
 cnd (decide ((s.length : Int) ≤ x285)) (some (([] : Str), (-1))) (chk (inK .i64 (x285 + 1)) <| some (x284, x285 + 1))

def rReadString (F : Nat) (s : Str) (at_ : Int) : Option (Str × Int) :=
 chk (imp (!(decide ((s.length : Int) ≤ at_))) (inR at_ (s.length : Int))) <| cnd (((decide ((s.length : Int) ≤ at_)) || (!decide ((bat s at_) = 34)))) (some (([] : Str), (-1))) (chk (inK .i64 (at_ + 1)) <| obn (lop (fun σ => rReadString_b1 s σ.1 σ.2) F (([] : Str), at_ + 1)) (oute fun ν => rReadString_k1 s ν.1 ν.2))

def rReadInt_b1 (s : Str) (at_ : Int) (x180 : Int) (x181 : Int) : Option (Stp (Int × Int) (Out ((List TApiCell) × Int) (Int × Int))) :=
 chk (imp (decide (x180 < (s.length : Int))) (inR x180 (s.length : Int))) <| cnd (((decide (x180 < (s.length : Int))) && ((decide (48 ≤ (bat s x180))) && (decide ((bat s x180) ≤ 57))))) (chk (inK .i64 (x180 - (at_ + 1))) <| cnd (decide ((x180 - (at_ + 1)) < 18)) (chk (inK .i64 (10 * x181)) <| chk (inR x180 (s.length : Int)) <| chk (inK .u8 ((bat s x180) - 48)) <| chk (inK .i64 ((bat s x180) - 48)) <| chk (inK .i64 ((10 * x181) + ((bat s x180) - 48))) <| chk (inK .i64 (x180 + 1)) <| some (.next (x180 + 1, (10 * x181) + ((bat s x180) - 48)))) (chk (inK .i64 (x180 + 1)) <| some (.next (x180 + 1, x181)))) (some (.out (.go (x180, x181))))

def rReadInt_k1 (s : Str) (at_ : Int) (x208 : Int) (x209 : Int) : Option ((List TApiCell) × Int) :=
 chk (imp (!(decide (x208 = (at_ + 1)))) (inR (at_ + 1) (s.length : Int))) <| chk (imp (!(decide (x208 = (at_ + 1)))) (imp (decide ((bat s (at_ + 1)) = 48)) (inK .i64 ((at_ + 1) + 1)))) <| cnd (((decide (x208 = (at_ + 1))) || ((decide ((bat s (at_ + 1)) = 48)) && ((decide (((at_ + 1) + 1) < x208)) || (decide (at_ < (at_ + 1))))))) (some (([] : List TApiCell), (-1))) (chk (inK .i64 (x208 - (at_ + 1))) <| cnd (decide (18 < (x208 - (at_ + 1)))) (cnd (decide (at_ < (at_ + 1))) (chk (inK .i64 (-2000000000000)) <| some (([(TApiCell.mk 3 (-2000000000000) ([] : Str) 0)] : List TApiCell), x208)) (some (([(TApiCell.mk 3 2000000000000 ([] : Str) 0)] : List TApiCell), x208))) (cnd (decide (at_ < (at_ + 1))) (chk (inK .i64 (-x209)) <| some (([(TApiCell.mk 3 (-x209) ([] : Str) 0)] : List TApiCell), x208)) (some (([(TApiCell.mk 3 x209 ([] : Str) 0)] : List TApiCell), x208))))

def rReadInt_b2 (s : Str) (at_ : Int) (x444 : Int) (x445 : Int) : Option (Stp (Int × Int) (Out ((List TApiCell) × Int) (Int × Int))) :=
 chk (imp (decide (x444 < (s.length : Int))) (inR x444 (s.length : Int))) <| cnd (((decide (x444 < (s.length : Int))) && ((decide (48 ≤ (bat s x444))) && (decide ((bat s x444) ≤ 57))))) (chk (inK .i64 (x444 - at_)) <| cnd (decide ((x444 - at_) < 18)) (chk (inK .i64 (10 * x445)) <| chk (inR x444 (s.length : Int)) <| chk (inK .u8 ((bat s x444) - 48)) <| chk (inK .i64 ((bat s x444) - 48)) <| chk (inK .i64 ((10 * x445) + ((bat s x444) - 48))) <| chk (inK .i64 (x444 + 1)) <| some (.next (x444 + 1, (10 * x445) + ((bat s x444) - 48)))) (chk (inK .i64 (x444 + 1)) <| some (.next (x444 + 1, x445)))) (some (.out (.go (x444, x445))))

def rReadInt_k2 (s : Str) (at_ : Int) (x472 : Int) (x473 : Int) : Option ((List TApiCell) × Int) :=
 chk (imp (!(decide (x472 = at_))) (imp (decide ((bat s at_) = 48)) (inK .i64 (at_ + 1)))) <| cnd (((decide (x472 = at_)) || ((decide ((bat s at_) = 48)) && ((decide ((at_ + 1) < x472)) || (decide (at_ < at_)))))) (some (([] : List TApiCell), (-1))) (chk (inK .i64 (x472 - at_)) <| cnd (decide (18 < (x472 - at_))) (cnd (decide (at_ < at_)) (chk (inK .i64 (-2000000000000)) <| some (([(TApiCell.mk 3 (-2000000000000) ([] : Str) 0)] : List TApiCell), x472)) (some (([(TApiCell.mk 3 2000000000000 ([] : Str) 0)] : List TApiCell), x472))) (cnd (decide (at_ < at_)) (chk (inK .i64 (-x473)) <| some (([(TApiCell.mk 3 (-x473) ([] : Str) 0)] : List TApiCell), x472)) (some (([(TApiCell.mk 3 x473 ([] : Str) 0)] : List TApiCell), x472))))

def rReadInt (F : Nat) (s : Str) (at_ : Int) : Option ((List TApiCell) × Int) :=
 chk (inR at_ (s.length : Int)) <| cnd (decide ((bat s at_) = 45)) (chk (inK .i64 (at_ + 1)) <| obn (lop (fun σ => rReadInt_b1 s at_ σ.1 σ.2) F (at_ + 1, 0)) (oute fun ν => rReadInt_k1 s at_ ν.1 ν.2)) (obn (lop (fun σ => rReadInt_b2 s at_ σ.1 σ.2) F (at_, 0)) (oute fun ν => rReadInt_k2 s at_ ν.1 ν.2))

def rReadm (F : Nat) (rec_rReadMany : Str → Int → Option ((List TApiCell) × Int)) (s : Str) (at_ : Int) : Option ((List TApiCell) × Int) :=
 cnd (decide ((s.length : Int) ≤ at_)) (some (([] : List TApiCell), (-1))) (obn (rStarts s at_ ([110, 117, 108, 108] : Str)) fun r4 => cnd (r4) (obn (rNull) fun r9 => chk (inK .i64 (at_ + 4)) <| some (r9, at_ + 4)) (obn (rStarts s at_ ([116, 114, 117, 101] : Str)) fun r15 => cnd (r15) (obn (rBool true) fun r20 => chk (inK .i64 (at_ + 4)) <| some (r20, at_ + 4)) (obn (rStarts s at_ ([102, 97, 108, 115, 101] : Str)) fun r26 => cnd (r26) (obn (rBool false) fun r31 => chk (inK .i64 (at_ + 5)) <| some (r31, at_ + 5)) (chk (inR at_ (s.length : Int)) <| cnd (decide ((bat s at_) = 34)) (obn (rReadString F s at_) fun r41 => some (([(TApiCell.mk 4 0 r41.1 0)] : List TApiCell), r41.2)) (cnd (((decide ((bat s at_) = 91)) || (decide ((bat s at_) = 123)))) (obn (rec_rReadMany s at_) fun r49 => some (r49.1, r49.2)) (obn (rReadInt F s at_) fun r53 => some (r53.1, r53.2)))))))

def rReadMany_b1 (F : Nat) (s : Str) (rec_rRead : Str → Int → Option ((List TApiCell) × Int)) (x443 : (List TApiCell)) (x445 : Int) (x446 : TApiCell) : Option (Stp ((List TApiCell) × Int × TApiCell) (Out ((List TApiCell) × Int) ((List TApiCell) × Int × TApiCell))) :=
 chk ((rStarts s x445 ([125] : Str)).isSome) <| chk (imp (!(!(ov (rStarts s x445 ([125] : Str))))) (imp (decide (0 < x446.fN)) (inK .i64 (x445 - 1)))) <| chk (imp (!(!(ov (rStarts s x445 ([125] : Str))))) (imp (decide (0 < x446.fN)) (inR (x445 - 1) (s.length : Int)))) <| cnd (((!(ov (rStarts s x445 ([125] : Str)))) || ((decide (0 < x446.fN)) && (decide ((bat s (x445 - 1)) = 44))))) (cnd (decide (x446.fKind = 6)) (obn (rReadString F s x445) fun r551 => chk (imp (!(decide (r551.2 < 0))) ((rStarts s r551.2 ([58] : Str)).isSome)) <| cnd (((decide (r551.2 < 0)) || (!(ov (rStarts s r551.2 ([58] : Str)))))) (some (.out (.ret (([] : List TApiCell), (-1))))) (chk (inA 40 (x443.length + ([(TApiCell.mk 4 0 r551.1 0)] : List TApiCell).length)) <| chk (inK .i64 (r551.2 + 1)) <| obn (rec_rRead s (r551.2 + 1)) fun r567 => cnd (decide (r567.2 < 0)) (some (.out (.ret (([] : List TApiCell), (-1))))) (chk (inA 40 ((x443 ++ ([(TApiCell.mk 4 0 r551.1 0)] : List TApiCell)).length + r567.1.length)) <| chk (inK .i64 (x446.fN + 1)) <| obn (rStarts s r567.2 ([44] : Str)) fun r579 => cnd (r579) (chk (inK .i64 (r567.2 + 1)) <| some (.next ((x443 ++ ([(TApiCell.mk 4 0 r551.1 0)] : List TApiCell)) ++ r567.1, r567.2 + 1, (TApiCell.mk x446.fKind x446.fInt x446.fStr (x446.fN + 1))))) (obn (rStarts s r567.2 ([125] : Str)) fun r588 => cnd (!r588) (some (.out (.ret (([] : List TApiCell), (-1))))) (some (.next ((x443 ++ ([(TApiCell.mk 4 0 r551.1 0)] : List TApiCell)) ++ r567.1, r567.2, (TApiCell.mk x446.fKind x446.fInt x446.fStr (x446.fN + 1))))))))) (obn (rec_rRead s x445) fun r597 => cnd (decide (r597.2 < 0)) (some (.out (.ret (([] : List TApiCell), (-1))))) (chk (inA 40 (x443.length + r597.1.length)) <| chk (inK .i64 (x446.fN + 1)) <| obn (rStarts s r597.2 ([44] : Str)) fun r609 => cnd (r609) (chk (inK .i64 (r597.2 + 1)) <| some (.next (x443 ++ r597.1, r597.2 + 1, (TApiCell.mk x446.fKind x446.fInt x446.fStr (x446.fN + 1))))) (obn (rStarts s r597.2 ([125] : Str)) fun r618 => cnd (!r618) (some (.out (.ret (([] : List TApiCell), (-1))))) (some (.next (x443 ++ r597.1, r597.2, (TApiCell.mk x446.fKind x446.fInt x446.fStr (x446.fN + 1))))))))) (some (.out (.go (x443, x445, x446))))

def rReadMany_k1 (x526 : (List TApiCell)) (x528 : Int) (x529 : TApiCell) : Option ((List TApiCell) × Int) :=
 chk (inA 40 (([x529] : List TApiCell).length + x526.length)) <| chk (inK .i64 (x528 + 1)) <| some (([x529] : List TApiCell) ++ x526, x528 + 1)

def rReadMany_b2 (F : Nat) (s : Str) (rec_rRead : Str → Int → Option ((List TApiCell) × Int)) (x1043 : (List TApiCell)) (x1045 : Int) (x1046 : TApiCell) : Option (Stp ((List TApiCell) × Int × TApiCell) (Out ((List TApiCell) × Int) ((List TApiCell) × Int × TApiCell))) :=
 chk ((rStarts s x1045 ([93] : Str)).isSome) <| chk (imp (!(!(ov (rStarts s x1045 ([93] : Str))))) (imp (decide (0 < x1046.fN)) (inK .i64 (x1045 - 1)))) <| chk (imp (!(!(ov (rStarts s x1045 ([93] : Str))))) (imp (decide (0 < x1046.fN)) (inR (x1045 - 1) (s.length : Int)))) <| cnd (((!(ov (rStarts s x1045 ([93] : Str)))) || ((decide (0 < x1046.fN)) && (decide ((bat s (x1045 - 1)) = 44))))) (cnd (decide (x1046.fKind = 6)) (obn (rReadString F s x1045) fun r1151 => chk (imp (!(decide (r1151.2 < 0))) ((rStarts s r1151.2 ([58] : Str)).isSome)) <| cnd (((decide (r1151.2 < 0)) || (!(ov (rStarts s r1151.2 ([58] : Str)))))) (some (.out (.ret (([] : List TApiCell), (-1))))) (chk (inA 40 (x1043.length + ([(TApiCell.mk 4 0 r1151.1 0)] : List TApiCell).length)) <| chk (inK .i64 (r1151.2 + 1)) <| obn (rec_rRead s (r1151.2 + 1)) fun r1167 => cnd (decide (r1167.2 < 0)) (some (.out (.ret (([] : List TApiCell), (-1))))) (chk (inA 40 ((x1043 ++ ([(TApiCell.mk 4 0 r1151.1 0)] : List TApiCell)).length + r1167.1.length)) <| chk (inK .i64 (x1046.fN + 1)) <| obn (rStarts s r1167.2 ([44] : Str)) fun r1179 => cnd (r1179) (chk (inK .i64 (r1167.2 + 1)) <| some (.next ((x1043 ++ ([(TApiCell.mk 4 0 r1151.1 0)] : List TApiCell)) ++ r1167.1, r1167.2 + 1, (TApiCell.mk x1046.fKind x1046.fInt x1046.fStr (x1046.fN + 1))))) (obn (rStarts s r1167.2 ([93] : Str)) fun r1188 => cnd (!r1188) (some (.out (.ret (([] : List TApiCell), (-1))))) (some (.next ((x1043 ++ ([(TApiCell.mk 4 0 r1151.1 0)] : List TApiCell)) ++ r1167.1, r1167.2, (TApiCell.mk x1046.fKind x1046.fInt x1046.fStr (x1046.fN + 1))))))))) (obn (rec_rRead s x1045) fun r1197 => cnd (decide (r1197.2 < 0)) (some (.out (.ret (([] : List TApiCell), (-1))))) (chk (inA 40 (x1043.length + r1197.1.length)) <| chk (inK .i64 (x1046.fN + 1)) <| obn (rStarts s r1197.2 ([44] : Str)) fun r1209 => cnd (r1209) (chk (inK .i64 (r1197.2 + 1)) <| some (.next (x1043 ++ r1197.1, r1197.2 + 1, (TApiCell.mk x1046.fKind x1046.fInt x1046.fStr (x1046.fN + 1))))) (obn (rStarts s r1197.2 ([93] : Str)) fun r1218 => cnd (!r1218) (some (.out (.ret (([] : List TApiCell), (-1))))) (some (.next (x1043 ++ r1197.1, r1197.2, (TApiCell.mk x1046.fKind x1046.fInt x1046.fStr (x1046.fN + 1))))))))) (some (.out (.go (x1043, x1045, x1046))))

def rReadMany_k2 (x1126 : (List TApiCell)) (x1128 : Int) (x1129 : TApiCell) : Option ((List TApiCell) × Int) :=
 chk (inA 40 (([x1129] : List TApiCell).length + x1126.length)) <| chk (inK .i64 (x1128 + 1)) <| some (([x1129] : List TApiCell) ++ x1126, x1128 + 1)

def rReadManym (F : Nat) (rec_rRead : Str → Int → Option ((List TApiCell) × Int)) (s : Str) (at_ : Int) : Option ((List TApiCell) × Int) :=
 chk (inR at_ (s.length : Int)) <| cnd (decide ((bat s at_) = 123)) (chk (inK .i64 (at_ + 1)) <| obn (lop (fun σ => rReadMany_b1 F s rec_rRead σ.1 σ.2.1 σ.2.2) F (([] : List TApiCell), at_ + 1, (TApiCell.mk 6 0 ([] : Str) 0))) (oute fun ν => rReadMany_k1 ν.1 ν.2.1 ν.2.2)) (chk (inK .i64 (at_ + 1)) <| obn (lop (fun σ => rReadMany_b2 F s rec_rRead σ.1 σ.2.1 σ.2.2) F (([] : List TApiCell), at_ + 1, (TApiCell.mk 5 0 ([] : Str) 0))) (oute fun ν => rReadMany_k2 ν.1 ν.2.1 ν.2.2))

mutual
def rRead : Nat → Str → Int → Option ((List TApiCell) × Int)
 | 0, _, _ => none
 | nn + 1, s, at_ => rReadm nn (rReadMany nn) s at_

def rReadMany : Nat → Str → Int → Option ((List TApiCell) × Int)
 | 0, _, _ => none
 | nn + 1, s, at_ => rReadManym nn (rRead nn) s at_

end
def rDecode (F : Nat) (s : Str) : Option ((List TApiCell) × Int) :=
 cnd (decide (4000 < (s.length : Int))) (some (([] : List TApiCell), 3)) (obn (rRead F s 0) fun r4 => cnd (!decide (r4.2 = (s.length : Int))) (some (([] : List TApiCell), 1)) (obn (rChecked F r4.1) fun r10 => some (r10.1, r10.2)))

end Go.Proofs.YtpmiamphppcfeaaGreatDoor

/-
  Walks, printed by a small program of ours (gq.py).
-/
namespace Go.Proofs.YtpmiamphppcfeaaGreatDoor.Q
open Go Go.RowKit
set_option linter.unusedVariables false
set_option linter.unusedSimpArgs false
set_option maxRecDepth 100000
set_option maxHeartbeats 4000000
theorem rChecked_w (F : Nat) (v : (List TApiCell)) (r : (List TApiCell) × Int) (h : rChecked F v = some r) : Fn Tryz.prog GE 64 [rSl 4 (List.map eTApiCell v)] [] (fun R H => R = rTup [rSl 4 (List.map eTApiCell r.1), rI .i64 r.2] ∧ H = []) := by
 refine enter (n := 11) Tryz.func64 rfl Tryz.ntmps64 rfl (fun w Z => ?_)
 unfold rChecked at h
 refine wc_sr (wa rfl (wa rfl (wl_y (wm rfl (ob h fun r1 e3 h2 => wc0 Tryz.call56 (rCheck_w F v r1 e3) rfl (wa rfl (wl_x (wc_seq (wc_sr (wm rfl (wv (o_ne rfl rfl) (wl_x (cz h2 rfl (fun c4 h5 => ?_) (fun c4 h6 => ?_))))))))))))))
 ·refine wc_sr (wm rfl (wa rfl (wa rfl (wl_x (wc_ret (wk_then_ret (WK.up (d := 2) (r := rSl 4 (List.map eTApiCell ([] : List TApiCell))) rfl (Up.le (Rle.nil _)) ?_)))))))
  obtain rfl := some_e h5
  exact wk_ret (r_2 Tryz.results64 (rv_t rfl) (rv_t rfl)) sN ⟨rfl, rfl⟩
 ·refine wc_skip (wk_x (wc_sr (wm rfl (wa rfl (wa rfl (wl_x (wc_ret ?_)))))))
  obtain rfl := some_e h6
  exact wk_ret (r_2 Tryz.results64 (rv_t rfl) (rv_t rfl)) sN ⟨rfl, rfl⟩

theorem rNull_w  (r : (List TApiCell)) (h : rNull = some r) : Fn Tryz.prog GE 84 [] [] (fun R H => R = rSl 4 (List.map eTApiCell r) ∧ H = []) := by
 refine enter (n := 3) Tryz.func84 rfl Tryz.ntmps84 rfl (fun w Z => ?_)
 unfold rNull at h
 refine wc_sr (wa rfl (wl_y (wv (r := rAgg [rI .i64 1, rI .i64 0, rS ([] : Str), rI .i64 0]) (o_build51_0 rfl rfl) (w_buildSlice (ys := ([(TApiCell.mk 1 0 ([] : Str) 0)] : List TApiCell)) (enc := eTApiCell) (css := [[rI .i64 1, rI .i64 0, rS ([] : Str), rI .i64 0]]) (xs := [.tmp 1]) yu23 ys51 yz51 rfl rfl rfl ⟨Cel.agg ⟨Up.refl _, Up.refl _, Up.refl _, Up.refl _, trivial⟩, trivial⟩ rfl eTApiCell_len rfl rfl rfl (fun b1 => ?_)))))
 refine wa rfl (wl_x (wc_ret (WK.freeze (i := 0) rfl (WK.up (d := 0) (r := rSl 4 (List.map eTApiCell ([(TApiCell.mk 1 0 ([] : Str) 0)] : List TApiCell))) rfl (Up.fact (i := 0) rfl) ?_))))
 obtain rfl := some_e h
 exact wk_ret (r_1 Tryz.results84 (rv_t rfl)) (sS sN) ⟨rfl, rfl⟩

theorem rBool_w (b : Bool) (r : (List TApiCell)) (h : rBool b = some r) : Fn Tryz.prog GE 85 [rB b] [] (fun R H => R = rSl 4 (List.map eTApiCell r) ∧ H = []) := by
 refine enter (n := 8) Tryz.func85 rfl Tryz.ntmps85 rfl (fun w Z => ?_)
 unfold rBool at h
 refine wc_sr (wa rfl (wl_x (wc_seq (wc_sr (wm rfl (wl_x (cz h rfl (fun c1 h2 => ?_) (fun c1 h4 => ?_))))))))
 ·refine wc_sr (wv (r := rAgg [rI .i64 2, rI .i64 1, rS ([] : Str), rI .i64 0]) (o_build51_0_1 rfl rfl rfl rfl) (w_buildSlice (ys := ([(TApiCell.mk 2 1 ([] : Str) 0)] : List TApiCell)) (enc := eTApiCell) (css := [[rI .i64 2, rI .i64 1, rS ([] : Str), rI .i64 0]]) (xs := [.tmp 4]) yu23 ys51 yz51 rfl rfl rfl ⟨Cel.agg ⟨Up.refl _, Up.refl _, Up.refl _, Up.refl _, trivial⟩, trivial⟩ rfl eTApiCell_len rfl rfl rfl (fun b3 => ?_)))
  refine wa rfl (wl_x (wc_ret (wk_then_ret (WK.freeze (i := 0) rfl (WK.up (d := 2) (r := rSl 4 (List.map eTApiCell ([(TApiCell.mk 2 1 ([] : Str) 0)] : List TApiCell))) rfl (Up.fact (i := 0) rfl) ?_)))))
  obtain rfl := some_e h2
  exact wk_ret (r_1 Tryz.results85 (rv_t rfl)) (sS sN) ⟨rfl, rfl⟩
 ·refine wc_skip (wk_x (wc_sr (wv (r := rAgg [rI .i64 2, rI .i64 0, rS ([] : Str), rI .i64 0]) (o_build51_0 rfl rfl) (w_buildSlice (ys := ([(TApiCell.mk 2 0 ([] : Str) 0)] : List TApiCell)) (enc := eTApiCell) (css := [[rI .i64 2, rI .i64 0, rS ([] : Str), rI .i64 0]]) (xs := [.tmp 6]) yu23 ys51 yz51 rfl rfl rfl ⟨Cel.agg ⟨Up.refl _, Up.refl _, Up.refl _, Up.refl _, trivial⟩, trivial⟩ rfl eTApiCell_len rfl rfl rfl (fun b5 => ?_)))))
  refine wa rfl (wl_x (wc_ret (WK.freeze (i := 0) rfl (WK.up (d := 2) (r := rSl 4 (List.map eTApiCell ([(TApiCell.mk 2 0 ([] : Str) 0)] : List TApiCell))) rfl (Up.fact (i := 0) rfl) ?_))))
  obtain rfl := some_e h4
  exact wk_ret (r_1 Tryz.results85 (rv_t rfl)) (sS sN) ⟨rfl, rfl⟩

theorem rStarts_w (s : Str) (at_ : Int) (word : Str) (r : Bool) (h : rStarts s at_ word = some r) : Fn Tryz.prog GE 83 [rS s, rI .i64 at_, rS word] [] (fun R H => R = rB r ∧ H = []) := by
 refine enter (n := 25) Tryz.func83 rfl Tryz.ntmps83 rfl (fun w Z => ?_)
 unfold rStarts at h
 refine wc_sr (wa rfl (wl_x (ck h fun g1 h2 => ck h2 fun g3 h4 => ck h4 fun g5 h6 => wc_seq_mid [(6, rB ((decide ((at_ + (word.length : Int)) ≤ (s.length : Int))) && (decide ((List.take (Int.toNat (at_ + (word.length : Int)) - Int.toNat at_) (List.drop (Int.toNat at_) s)) = word))))] [] ?_ ?_)))
 ·refine wc_region (wm rfl (wm rfl (wv (o_len_s yu9 rfl) (wv (o_add rfl rfl g1) (wm rfl (wv (o_len_s yu9 rfl) (wv (o_le rfl rfl) (wm rfl (bsplit (decide ((at_ + (word.length : Int)) ≤ (s.length : Int))) (fun c7 => ?_) (fun c7 => ?_))))))))))
  ·refine wo c7 (wm rfl (wo c7 (wm rfl (wo c7 (wm rfl (wo c7 (wm rfl (wo c7 (wv (o_len_s yu9 rfl) (wo c7 (wv (o_add rfl rfl g1) (wo c7 (wv (o_slice_lh yu9 rfl rfl rfl (imp_t g3 c7) (imp_t g5 c7)) (wo c7 (wm rfl (wo c7 (wv (o_seq rfl rfl) (wpt rfl c7 rfl (wa rfl (wl_nil ?_))))))))))))))))))))
   exact wtc c7
  ·refine wf c7 (wf c7 (wf c7 (wf c7 (wf c7 (wf c7 (wf c7 (wf c7 (wf c7 (wv (r := rB false) (o_pick_f rfl c7 rfl) (wa rfl (wl_nil ?_)))))))))))
   exact wtc c7
 refine wc_ret ?_
 obtain rfl := some_e h6
 exact wk_ret (r_1 Tryz.results83 (rv_t rfl)) sN ⟨rfl, rfl⟩

theorem rReadString_w (F : Nat) (s : Str) (at_ : Int) (r : Str × Int) (h : rReadString F s at_ = some r) : Fn Tryz.prog GE 86 [rS s, rI .i64 at_] [] (fun R H => R = rTup [rS r.1, rI .i64 r.2] ∧ H = []) := by
 refine enter (n := 68) Tryz.func86 rfl Tryz.ntmps86 rfl (fun w Z => ?_)
 unfold rReadString at h
 refine wc_sr (wv (r := rS ([] : Str)) (o_assign rfl) (wa rfl (wl_x (wc_seq (ck h fun g1 h2 => wc_seq_mid [(0, rS s), (1, rI .i64 at_), (17, rB ((decide ((s.length : Int) ≤ at_)) || (!decide ((bat s at_) = 34))))] [] ?_ ?_)))))
 ·refine wc_region (wm rfl (wm rfl (wv (o_len_s yu9 rfl) (wv (o_ge rfl rfl) (wm rfl (bsplit (decide ((s.length : Int) ≤ at_)) (fun c3 => ?_) (fun c3 => ?_)))))))
  ·refine wf c3 (wf c3 (wf c3 (wf c3 (wv (r := rB true) (o_pick_t rfl c3 rfl) (wl_nil ?_)))))
   exact wtc c3
  ·refine wo c3 (wm rfl (wo c3 (wm rfl (wo c3 (wv (o_index_b yu9 rfl rfl (imp_f g1 c3)) (wo c3 (wv (o_ne rfl rfl) (wpf rfl c3 rfl (wl_nil ?_)))))))))
   exact wtc c3
 refine cz h2 rfl (fun c4 h5 => ?_) (fun c4 h6 => ?_)
 ·refine wc_sr (wv (r := rS ([] : Str)) (o_assign rfl) (wv (r := rI .i64 (-1)) (o_assign rfl) (wl_x (wc_ret (wk_then_ret ?_)))))
  obtain rfl := some_e h5
  exact wk_ret (r_2 yr86 (rv_t rfl) (rv_t rfl)) sN ⟨rfl, rfl⟩
 ·refine wc_skip (wk_x (wc_sr (wv (r := rS ([] : Str)) (o_assign rfl) (wl_y (wm rfl (ck h6 fun g7 h8 => wv (o_add rfl rfl g7) (wa rfl (wl_x (wc_seq (wc_block (ob h8 fun o286 eo287 hK288 => wc_loop2 (S := Nat × (Str × Int) × (Unit)) (V := (Str × Int) × (Unit)) 0 (fun σ => lop (fun σ => rReadString_b1 s σ.1 σ.2) σ.1 σ.2.1 = some o286) (fun σ => [(0, rS s), (6, rS σ.2.1.1), (7, rI .i64 σ.2.1.2)]) (fun σ => []) (fun σ => σ.1) (F, (([] : Str), at_ + 1), ()) eo287 (Sub.c rfl (Sub.c rfl (Sub.c rfl Sub.nil))) sN (fun σ => rReadString_k1 s σ.1.1 σ.1.2 = some r) (fun σ => [(0, rS s), (6, rS σ.1.1), (7, rI .i64 σ.1.2)]) (fun σ => []) ?_ ?_)))))))))))
  ·rintro ⟨n294, ⟨x246, x247⟩, ⟨⟩⟩ hi292
   refine wc_as (l' := [(0, rS s), (6, rS x246), (7, rI .i64 x247)]) (H' := []) rfl rfl ?_
   obtain ⟨m291, rfl, t289, h293, ht290⟩ := lop_e hi292
   replace h293 : rReadString_b1 s x246 x247 = some t289 := h293
   unfold rReadString_b1 at h293
   refine wc_seq (ck h293 fun g295 h296 => wc_seq_mid [(0, rS s), (6, rS x246), (7, rI .i64 x247), (29, rB ((decide (x247 < (s.length : Int))) && (!decide ((bat s x247) = 34))))] [] ?_ ?_)
   ·refine wc_region (wm rfl (wm rfl (wv (o_len_s yu9 rfl) (wv (o_lt rfl rfl) (wm rfl (bsplit (decide (x247 < (s.length : Int))) (fun c297 => ?_) (fun c297 => ?_)))))))
    ·refine wo c297 (wm rfl (wo c297 (wm rfl (wo c297 (wv (o_index_b yu9 rfl rfl (imp_t g295 c297)) (wo c297 (wv (o_ne rfl rfl) (wpt rfl c297 rfl (wl_nil ?_)))))))))
     exact wtc c297
    ·refine wf c297 (wf c297 (wf c297 (wf c297 (wv (r := rB false) (o_pick_f rfl c297 rfl) (wl_nil ?_)))))
     exact wtc c297
   refine cz h296 rfl (fun c298 h299 => ?_) (fun c298 h333 => ?_)
   ·refine wc_skip (wk_x (wc_block (wc_seq (wc_sr (wm rfl (wm rfl (ck h299 fun g300 h301 => wv (o_index_b yu9 rfl rfl g300) (wv (o_eq rfl rfl) (wl_x (cz h301 rfl (fun c302 h303 => ?_) (fun c302 h323 => ?_)))))))))))
    ·refine wc_sr (wm rfl (ck h303 fun g304 h305 => wv (o_add rfl rfl g304) (wa rfl (wl_x (ck h305 fun g306 h307 => wc_seq_mid [(0, rS s), (6, rS x246), (7, rI .i64 (x247 + 1)), (51, rB ((decide ((s.length : Int) ≤ (x247 + 1))) || ((!decide ((bat s (x247 + 1)) = 34)) && (!decide ((bat s (x247 + 1)) = 92)))))] [] ?_ ?_)))))
     ·refine wc_region (wm rfl (wm rfl (wv (o_len_s yu9 rfl) (wv (o_ge rfl rfl) (wm rfl (bsplit (decide ((s.length : Int) ≤ (x247 + 1))) (fun c308 => ?_) (fun c308 => ?_)))))))
      ·refine wf c308 (wf c308 (wf c308 (wf c308 (wf c308 (wu (wu (wu (wu (wf c308 (wv (r := rB true) (o_pick_t rfl c308 rfl) (wl_nil ?_)))))))))))
       exact wtc c308
      ·refine wo c308 (wm rfl (wo c308 (wm rfl (wo c308 (wv (o_index_b yu9 rfl rfl (imp_f g306 c308)) (wo c308 (wv (o_ne rfl rfl) (wo c308 (wm rfl (bsplit (!decide ((bat s (x247 + 1)) = 34)) (fun c309 => ?_) (fun c309 => ?_)))))))))))
       ·refine wo c309 (wm rfl (wo c309 (wm rfl (wo c309 (wv (o_index_b yu9 rfl rfl (imp_f g306 c308)) (wo c309 (wv (o_ne rfl rfl) (wo c308 (wpt rfl c309 rfl (wpf rfl c308 rfl (wl_nil ?_)))))))))))
        exact wtc (And.intro c308 c309)
       ·refine wf c309 (wf c309 (wf c309 (wf c309 (wo c308 (wv (r := rB false) (o_pick_f rfl c309 rfl) (wpf rfl c308 rfl (wl_nil ?_)))))))
        exact wtc (And.intro c308 c309)
     refine cz h307 rfl (fun c310 h311 => ?_) (fun c310 h313 => ?_)
     ·refine wc_sr (wv (r := rS ([] : Str)) (o_assign rfl) (wv (r := rI .i64 (-1)) (o_assign rfl) (wl_x (wc_ret (wk_then_ret (wk_in_ret (wk_then_ret (wk_cut_ret ?_))))))))
      have h312 := stp_ret h311 ht290 hK288
      refine wk_in_ret (wk_then_ret ?_)
      obtain rfl := some_e h312
      exact wk_ret (r_2 yr86 (rv_t rfl) (rv_t rfl)) sN ⟨rfl, rfl⟩
     ·refine wc_skip (wk_x (wc_sr (wm rfl (wm rfl (wm rfl (wm rfl (ck h313 fun g314 h315 => wv (o_add rfl rfl g314) (ck h315 fun g316 h317 => ck h317 fun g318 h319 => wv (o_slice_lh yu9 rfl rfl rfl g316 g318) (ck h319 fun g320 h321 => wv (o_sadd rfl rfl g320) (wa rfl (wl_x (wc_region (wm rfl (wv (o_add rfl rfl g314) (wa rfl (wl_nil (wk_in_norm ?_)))))))))))))))))
      have h322 := stp_next h321 ht290
      exact wk_then (wk_some (m291, (x246 ++ (List.take (Int.toNat ((x247 + 1) + 1) - Int.toNat (x247 + 1)) (List.drop (Int.toNat (x247 + 1)) s)), (x247 + 1) + 1), ()) ⟨h322, Nat.lt_succ_self _⟩ (Sub.c rfl (Sub.c rfl (Sub.c rfl Sub.nil))) sN)
    ·refine wc_skip (wk_x (wc_sr (wm rfl (wm rfl (wm rfl (wm rfl (ck h323 fun g324 h325 => wv (o_add rfl rfl g324) (ck h325 fun g326 h327 => ck h327 fun g328 h329 => wv (o_slice_lh yu9 rfl rfl rfl g326 g328) (ck h329 fun g330 h331 => wv (o_sadd rfl rfl g330) (wa rfl (wl_x (wc_region (wm rfl (wv (o_add rfl rfl g324) (wa rfl (wl_nil (wk_in_norm ?_)))))))))))))))))
     have h332 := stp_next h331 ht290
     exact wk_then (wk_some (m291, (x246 ++ (List.take (Int.toNat (x247 + 1) - Int.toNat x247) (List.drop (Int.toNat x247) s)), x247 + 1), ()) ⟨h332, Nat.lt_succ_self _⟩ (Sub.c rfl (Sub.c rfl (Sub.c rfl Sub.nil))) sN)
   ·refine wc_exit (wk_then_exit ?_)
    have h334 := stp_go h333 ht290 hK288
    exact wk_then_exit (wk_cut_hit (wk_some ((x246, x247), ()) h334 (Sub.c rfl (Sub.c rfl (Sub.c rfl Sub.nil))) sN))
  ·rintro ⟨⟨x284, x285⟩, ⟨⟩⟩ h335
   refine wk_as (l' := [(0, rS s), (6, rS x284), (7, rI .i64 x285)]) (H' := []) rfl rfl ?_
   replace h335 : rReadString_k1 s x284 x285 = some r := h335
   unfold rReadString_k1 at h335
   refine wk_in_hit (wk_x (wc_seq (wc_sr (wm rfl (wm rfl (wv (o_len_s yu9 rfl) (wv (o_ge rfl rfl) (wl_x (cz h335 rfl (fun c336 h337 => ?_) (fun c336 h338 => ?_))))))))))
   ·refine wc_sr (wv (r := rS ([] : Str)) (o_assign rfl) (wv (r := rI .i64 (-1)) (o_assign rfl) (wl_x (wc_ret (wk_then_ret ?_)))))
    obtain rfl := some_e h337
    exact wk_ret (r_2 yr86 (rv_t rfl) (rv_t rfl)) sN ⟨rfl, rfl⟩
   ·refine wc_skip (wk_x (wc_sr (wm rfl (wm rfl (ck h338 fun g339 h340 => wv (o_add rfl rfl g339) (wa rfl (wa rfl (wl_x (wc_ret ?_)))))))))
    obtain rfl := some_e h340
    exact wk_ret (r_2 yr86 (rv_t rfl) (rv_t rfl)) sN ⟨rfl, rfl⟩

theorem rReadInt_w (F : Nat) (s : Str) (at_ : Int) (r : (List TApiCell) × Int) (h : rReadInt F s at_ = some r) : Fn Tryz.prog GE 88 [rS s, rI .i64 at_] [] (fun R H => R = rTup [rSl 4 (List.map eTApiCell r.1), rI .i64 r.2] ∧ H = []) := by
 refine enter (n := 80) Tryz.func88 rfl Tryz.ntmps88 rfl (fun w Z => ?_)
 unfold rReadInt at h
 refine wc_sr (wa rfl (wa rfl (wl_y (wm rfl (wa rfl (wl_x (wc_seq (wc_sr (wm rfl (wm rfl (ck h fun g1 h2 => wv (o_index_b yu9 rfl rfl g1) (wv (o_eq rfl rfl) (wl_x (cz h2 rfl (fun c3 h4 => ?_) (fun c3 h278 => ?_)))))))))))))))
 ·refine wc_region (wm rfl (ck h4 fun g5 h6 => wv (o_add rfl rfl g5) (wa rfl (wl_y (wm rfl (wa rfl (wl_y (wa rfl (wl_x (wc_seq (wc_block (ob h6 fun o210 eo211 hK212 => wc_loop2 (S := Nat × (Int × Int) × (Unit)) (V := (Int × Int) × (Unit)) 0 (fun σ => lop (fun σ => rReadInt_b1 s at_ σ.1 σ.2) σ.1 σ.2.1 = some o210) (fun σ => [(0, rS s), (1, rI .i64 at_), (6, rI .i64 σ.2.1.1), (7, rI .i64 (at_ + 1)), (8, rI .i64 σ.2.1.2)]) (fun σ => []) (fun σ => σ.1) (F, (at_ + 1, 0), ()) eo211 (Sub.c5 rfl rfl rfl rfl rfl Sub.nil) sN (fun σ => rReadInt_k1 s at_ σ.1.1 σ.1.2 = some r) (fun σ => [(0, rS s), (1, rI .i64 at_), (6, rI .i64 σ.1.1), (7, rI .i64 (at_ + 1)), (8, rI .i64 σ.1.2)]) (fun σ => []) ?_ ?_))))))))))))
  ·rintro ⟨n218, ⟨x180, x181⟩, ⟨⟩⟩ hi216
   refine wc_as (l' := [(0, rS s), (1, rI .i64 at_), (6, rI .i64 x180), (7, rI .i64 (at_ + 1)), (8, rI .i64 x181)]) (H' := []) rfl rfl ?_
   obtain ⟨m215, rfl, t213, h217, ht214⟩ := lop_e hi216
   replace h217 : rReadInt_b1 s at_ x180 x181 = some t213 := h217
   unfold rReadInt_b1 at h217
   refine wc_seq (ck h217 fun g219 h220 => wc_seq_mid [(0, rS s), (1, rI .i64 at_), (6, rI .i64 x180), (7, rI .i64 (at_ + 1)), (8, rI .i64 x181), (32, rB ((decide (x180 < (s.length : Int))) && ((decide (48 ≤ (bat s x180))) && (decide ((bat s x180) ≤ 57)))))] [] ?_ ?_)
   ·refine wc_region (wm rfl (wm rfl (wv (o_len_s yu9 rfl) (wv (o_lt rfl rfl) (wm rfl (bsplit (decide (x180 < (s.length : Int))) (fun c221 => ?_) (fun c221 => ?_)))))))
    ·refine wo c221 (wm rfl (wo c221 (wm rfl (wo c221 (wv (o_index_b yu9 rfl rfl (imp_t g219 c221)) (wo c221 (wv (o_ge rfl rfl) (wpt rfl c221 rfl (wm rfl (bsplit (decide (48 ≤ (bat s x180))) (fun c222 => ?_) (fun c222 => ?_)))))))))))
     ·refine wo c222 (wm rfl (wo c222 (wm rfl (wo c222 (wv (o_index_b yu9 rfl rfl (imp_t g219 c221)) (wo c222 (wv (o_le rfl rfl) (wpt rfl c222 rfl (wl_nil ?_)))))))))
      exact wtc (And.intro c221 c222)
     ·refine wf c222 (wf c222 (wf c222 (wf c222 (wv (r := rB false) (o_pick_f rfl c222 rfl) (wl_nil ?_)))))
      exact wtc (And.intro c221 c222)
    ·refine wf c221 (wf c221 (wf c221 (wf c221 (wv (r := rB false) (o_pick_f rfl c221 rfl) (wm rfl (wz rfl rfl (wz rfl rfl (wz rfl rfl (wz rfl rfl (wv (r := rB false) (o_pick_f (b := false) rfl rfl rfl) (wl_nil ?_)))))))))))
     exact wtc c221
   refine cz h220 rfl (fun c223 h224 => ?_) (fun c223 h246 => ?_)
   ·refine wc_skip (wk_x (wc_block (wc_seq (wc_sr (wm rfl (wm rfl (ck h224 fun g225 h226 => wv (o_sub rfl rfl g225) (wv (o_lt rfl rfl) (wl_x (cz h226 rfl (fun c227 h228 => ?_) (fun c227 h242 => ?_)))))))))))
    ·refine wc_region (wm rfl (ck h228 fun g229 h230 => wv (o_mul rfl rfl g229) (wm rfl (wm rfl (ck h230 fun g231 h232 => wv (o_index_b yu9 rfl rfl g231) (ck h232 fun g233 h234 => wv (o_sub rfl rfl g233) (ck h234 fun g235 h236 => wv (o_conv_int ⟨_, yu5⟩ yu3 rfl g235) (ck h236 fun g237 h238 => wv (o_add rfl rfl g237) (wa rfl (wl_x (wc_region (wm rfl (ck h238 fun g239 h240 => wv (o_add rfl rfl g239) (wa rfl (wl_nil (wk_in_norm ?_))))))))))))))))
     have h241 := stp_next h240 ht214
     exact wk_then (wk_some (m215, (x180 + 1, (10 * x181) + ((bat s x180) - 48)), ()) ⟨h241, Nat.lt_succ_self _⟩ (Sub.c5 rfl rfl rfl rfl rfl Sub.nil) sN)
    ·refine wc_skip (wk_x (wc_region (wm rfl (ck h242 fun g243 h244 => wv (o_add rfl rfl g243) (wa rfl (wl_nil (wk_in_norm ?_)))))))
     have h245 := stp_next h244 ht214
     exact wk_then (wk_some (m215, (x180 + 1, x181), ()) ⟨h245, Nat.lt_succ_self _⟩ (Sub.c5 rfl rfl rfl rfl rfl Sub.nil) sN)
   ·refine wc_exit (wk_then_exit ?_)
    have h247 := stp_go h246 ht214 hK212
    exact wk_then_exit (wk_cut_hit (wk_some ((x180, x181), ()) h247 (Sub.c5 rfl rfl rfl rfl rfl Sub.nil) sN))
  ·rintro ⟨⟨x208, x209⟩, ⟨⟩⟩ h248
   refine wk_as (l' := [(0, rS s), (1, rI .i64 at_), (6, rI .i64 x208), (7, rI .i64 (at_ + 1)), (8, rI .i64 x209)]) (H' := []) rfl rfl ?_
   replace h248 : rReadInt_k1 s at_ x208 x209 = some r := h248
   unfold rReadInt_k1 at h248
   refine wk_in_hit (wk_x (wc_seq (ck h248 fun g249 h250 => ck h250 fun g251 h252 => wc_seq_mid [(1, rI .i64 at_), (6, rI .i64 x208), (7, rI .i64 (at_ + 1)), (8, rI .i64 x209), (66, rB ((decide (x208 = (at_ + 1))) || ((decide ((bat s (at_ + 1)) = 48)) && ((decide (((at_ + 1) + 1) < x208)) || (decide (at_ < (at_ + 1)))))))] [] ?_ ?_)))
   ·refine wc_region (wm rfl (wm rfl (wv (o_eq rfl rfl) (wm rfl (bsplit (decide (x208 = (at_ + 1))) (fun c253 => ?_) (fun c253 => ?_))))))
    ·refine wf c253 (wf c253 (wf c253 (wf c253 (wf c253 (wu (wu (wu (wu (wu (wu (wu (wu (wu (wf c253 (wv (r := rB true) (o_pick_t rfl c253 rfl) (wl_nil ?_))))))))))))))))
     exact wtc c253
    ·refine wo c253 (wm rfl (wo c253 (wm rfl (wo c253 (wv (o_index_b yu9 rfl rfl (imp_f g249 c253)) (wo c253 (wv (o_eq rfl rfl) (wo c253 (wm rfl (bsplit (decide ((bat s (at_ + 1)) = 48)) (fun c254 => ?_) (fun c254 => ?_)))))))))))
     ·refine wo c254 (wm rfl (wo c254 (wm rfl (wo c254 (wv (o_add rfl rfl (imp_t (imp_f g251 c253) c254)) (wo c254 (wv (o_gt rfl rfl) (wo c254 (wm rfl (bsplit (decide (((at_ + 1) + 1) < x208)) (fun c255 => ?_) (fun c255 => ?_)))))))))))
      ·refine wf c255 (wf c255 (wf c255 (wo c254 (wv (r := rB true) (o_pick_t rfl c255 rfl) (wo c253 (wpt rfl c254 rfl (wpf rfl c253 rfl (wl_nil ?_))))))))
       exact wtc (And.intro c253 (And.intro c254 c255))
      ·refine wo c255 (wm rfl (wo c255 (wm rfl (wo c255 (wv (o_gt rfl rfl) (wo c254 (wpf rfl c255 rfl (wo c253 (wpt rfl c254 rfl (wpf rfl c253 rfl (wl_nil ?_)))))))))))
       exact wtc (And.intro c253 (And.intro c254 c255))
     ·refine wf c254 (wf c254 (wf c254 (wf c254 (wf c254 (wu (wu (wu (wf c254 (wo c253 (wv (r := rB false) (o_pick_f rfl c254 rfl) (wpf rfl c253 rfl (wl_nil ?_))))))))))))
      exact wtc (And.intro c253 c254)
   refine cz h252 rfl (fun c256 h257 => ?_) (fun c256 h258 => ?_)
   ·refine wc_sr (wa rfl (wv (r := rI .i64 (-1)) (o_assign rfl) (wl_x (wc_ret (wk_then_ret (WK.up (d := 4) (r := rSl 4 (List.map eTApiCell ([] : List TApiCell))) rfl (Up.le (Rle.nil _)) ?_))))))
    obtain rfl := some_e h257
    exact wk_ret (r_2 yr88 (rv_t rfl) (rv_t rfl)) sN ⟨rfl, rfl⟩
   ·refine wc_skip (wk_x (wc_seq (wc_sr (wm rfl (wm rfl (ck h258 fun g259 h260 => wv (o_sub rfl rfl g259) (wv (o_gt rfl rfl) (wl_x (cz h260 rfl (fun c261 h262 => ?_) (fun c261 h270 => ?_))))))))))
    ·refine wc_region (wa rfl (wl_x (wc_seq (wc_sr (wm rfl (wm rfl (wv (o_gt rfl rfl) (wl_x (cz h262 rfl (fun c263 h264 => ?_) (fun c263 h268 => ?_))))))))))
     ·refine wc_region (wm rfl (ck h264 fun g265 h266 => wv (o_neg rfl g265) (wa rfl (wl_y (wm rfl (wv (r := rAgg [rI .i64 3, rI .i64 (-2000000000000), rS ([] : Str), rI .i64 0]) (o_build51_0_1 rfl rfl rfl rfl) (w_buildSlice (ys := ([(TApiCell.mk 3 (-2000000000000) ([] : Str) 0)] : List TApiCell)) (enc := eTApiCell) (css := [[rI .i64 3, rI .i64 (-2000000000000), rS ([] : Str), rI .i64 0]]) (xs := [.tmp 77]) yu23 ys51 yz51 rfl rfl rfl ⟨Cel.agg ⟨Up.refl _, Up.refl _, Up.refl _, Up.refl _, trivial⟩, trivial⟩ rfl eTApiCell_len rfl rfl rfl (fun b267 => ?_))))))))
      refine wm rfl (wa rfl (wa rfl (wl_x (wc_ret (WK.freeze (i := 0) rfl (WK.up (d := 4) (r := rSl 4 (List.map eTApiCell ([(TApiCell.mk 3 (-2000000000000) ([] : Str) 0)] : List TApiCell))) rfl (Up.fact (i := 0) rfl) ?_))))))
      obtain rfl := some_e h266
      exact wk_ret (r_2 yr88 (rv_t rfl) (rv_t rfl)) (sS sN) ⟨rfl, rfl⟩
     ·refine wc_skip (wk_x (wc_sr (wm rfl (wv (r := rAgg [rI .i64 3, rI .i64 2000000000000, rS ([] : Str), rI .i64 0]) (o_build51_0_1 rfl rfl rfl rfl) (w_buildSlice (ys := ([(TApiCell.mk 3 2000000000000 ([] : Str) 0)] : List TApiCell)) (enc := eTApiCell) (css := [[rI .i64 3, rI .i64 2000000000000, rS ([] : Str), rI .i64 0]]) (xs := [.tmp 77]) yu23 ys51 yz51 rfl rfl rfl ⟨Cel.agg ⟨Up.refl _, Up.refl _, Up.refl _, Up.refl _, trivial⟩, trivial⟩ rfl eTApiCell_len rfl rfl rfl (fun b269 => ?_))))))
      refine wm rfl (wa rfl (wa rfl (wl_x (wc_ret (WK.freeze (i := 0) rfl (WK.up (d := 4) (r := rSl 4 (List.map eTApiCell ([(TApiCell.mk 3 2000000000000 ([] : Str) 0)] : List TApiCell))) rfl (Up.fact (i := 0) rfl) ?_))))))
      obtain rfl := some_e h268
      exact wk_ret (r_2 yr88 (rv_t rfl) (rv_t rfl)) (sS sN) ⟨rfl, rfl⟩
    ·refine wc_skip (wk_x (wc_seq (wc_sr (wm rfl (wm rfl (wv (o_gt rfl rfl) (wl_x (cz h270 rfl (fun c271 h272 => ?_) (fun c271 h276 => ?_)))))))))
     ·refine wc_region (wm rfl (ck h272 fun g273 h274 => wv (o_neg rfl g273) (wa rfl (wl_y (wm rfl (wv (r := rAgg [rI .i64 3, rI .i64 (-x209), rS ([] : Str), rI .i64 0]) (o_build51_0_1 rfl rfl rfl rfl) (w_buildSlice (ys := ([(TApiCell.mk 3 (-x209) ([] : Str) 0)] : List TApiCell)) (enc := eTApiCell) (css := [[rI .i64 3, rI .i64 (-x209), rS ([] : Str), rI .i64 0]]) (xs := [.tmp 77]) yu23 ys51 yz51 rfl rfl rfl ⟨Cel.agg ⟨Up.refl _, Up.refl _, Up.refl _, Up.refl _, trivial⟩, trivial⟩ rfl eTApiCell_len rfl rfl rfl (fun b275 => ?_))))))))
      refine wm rfl (wa rfl (wa rfl (wl_x (wc_ret (WK.freeze (i := 0) rfl (WK.up (d := 4) (r := rSl 4 (List.map eTApiCell ([(TApiCell.mk 3 (-x209) ([] : Str) 0)] : List TApiCell))) rfl (Up.fact (i := 0) rfl) ?_))))))
      obtain rfl := some_e h274
      exact wk_ret (r_2 yr88 (rv_t rfl) (rv_t rfl)) (sS sN) ⟨rfl, rfl⟩
     ·refine wc_skip (wk_x (wc_sr (wm rfl (wv (r := rAgg [rI .i64 3, rI .i64 x209, rS ([] : Str), rI .i64 0]) (o_build51_0_1 rfl rfl rfl rfl) (w_buildSlice (ys := ([(TApiCell.mk 3 x209 ([] : Str) 0)] : List TApiCell)) (enc := eTApiCell) (css := [[rI .i64 3, rI .i64 x209, rS ([] : Str), rI .i64 0]]) (xs := [.tmp 77]) yu23 ys51 yz51 rfl rfl rfl ⟨Cel.agg ⟨Up.refl _, Up.refl _, Up.refl _, Up.refl _, trivial⟩, trivial⟩ rfl eTApiCell_len rfl rfl rfl (fun b277 => ?_))))))
      refine wm rfl (wa rfl (wa rfl (wl_x (wc_ret (WK.freeze (i := 0) rfl (WK.up (d := 4) (r := rSl 4 (List.map eTApiCell ([(TApiCell.mk 3 x209 ([] : Str) 0)] : List TApiCell))) rfl (Up.fact (i := 0) rfl) ?_))))))
      obtain rfl := some_e h276
      exact wk_ret (r_2 yr88 (rv_t rfl) (rv_t rfl)) (sS sN) ⟨rfl, rfl⟩
 ·refine wc_skip (wk_x (wc_sr (wm rfl (wa rfl (wl_y (wa rfl (wl_x (wc_seq (wc_block (ob h278 fun o474 eo475 hK476 => wc_loop2 (S := Nat × (Int × Int) × (Unit)) (V := (Int × Int) × (Unit)) 0 (fun σ => lop (fun σ => rReadInt_b2 s at_ σ.1 σ.2) σ.1 σ.2.1 = some o474) (fun σ => [(0, rS s), (1, rI .i64 at_), (6, rI .i64 σ.2.1.1), (7, rI .i64 at_), (8, rI .i64 σ.2.1.2)]) (fun σ => []) (fun σ => σ.1) (F, (at_, 0), ()) eo475 (Sub.c5 rfl rfl rfl rfl rfl Sub.nil) sN (fun σ => rReadInt_k2 s at_ σ.1.1 σ.1.2 = some r) (fun σ => [(0, rS s), (1, rI .i64 at_), (6, rI .i64 σ.1.1), (7, rI .i64 at_), (8, rI .i64 σ.1.2)]) (fun σ => []) ?_ ?_))))))))))
  ·rintro ⟨n482, ⟨x444, x445⟩, ⟨⟩⟩ hi480
   refine wc_as (l' := [(0, rS s), (1, rI .i64 at_), (6, rI .i64 x444), (7, rI .i64 at_), (8, rI .i64 x445)]) (H' := []) rfl rfl ?_
   obtain ⟨m479, rfl, t477, h481, ht478⟩ := lop_e hi480
   replace h481 : rReadInt_b2 s at_ x444 x445 = some t477 := h481
   unfold rReadInt_b2 at h481
   refine wc_seq (ck h481 fun g483 h484 => wc_seq_mid [(0, rS s), (1, rI .i64 at_), (6, rI .i64 x444), (7, rI .i64 at_), (8, rI .i64 x445), (32, rB ((decide (x444 < (s.length : Int))) && ((decide (48 ≤ (bat s x444))) && (decide ((bat s x444) ≤ 57)))))] [] ?_ ?_)
   ·refine wc_region (wm rfl (wm rfl (wv (o_len_s yu9 rfl) (wv (o_lt rfl rfl) (wm rfl (bsplit (decide (x444 < (s.length : Int))) (fun c485 => ?_) (fun c485 => ?_)))))))
    ·refine wo c485 (wm rfl (wo c485 (wm rfl (wo c485 (wv (o_index_b yu9 rfl rfl (imp_t g483 c485)) (wo c485 (wv (o_ge rfl rfl) (wpt rfl c485 rfl (wm rfl (bsplit (decide (48 ≤ (bat s x444))) (fun c486 => ?_) (fun c486 => ?_)))))))))))
     ·refine wo c486 (wm rfl (wo c486 (wm rfl (wo c486 (wv (o_index_b yu9 rfl rfl (imp_t g483 c485)) (wo c486 (wv (o_le rfl rfl) (wpt rfl c486 rfl (wl_nil ?_)))))))))
      exact wtc (And.intro c485 c486)
     ·refine wf c486 (wf c486 (wf c486 (wf c486 (wv (r := rB false) (o_pick_f rfl c486 rfl) (wl_nil ?_)))))
      exact wtc (And.intro c485 c486)
    ·refine wf c485 (wf c485 (wf c485 (wf c485 (wv (r := rB false) (o_pick_f rfl c485 rfl) (wm rfl (wz rfl rfl (wz rfl rfl (wz rfl rfl (wz rfl rfl (wv (r := rB false) (o_pick_f (b := false) rfl rfl rfl) (wl_nil ?_)))))))))))
     exact wtc c485
   refine cz h484 rfl (fun c487 h488 => ?_) (fun c487 h510 => ?_)
   ·refine wc_skip (wk_x (wc_block (wc_seq (wc_sr (wm rfl (wm rfl (ck h488 fun g489 h490 => wv (o_sub rfl rfl g489) (wv (o_lt rfl rfl) (wl_x (cz h490 rfl (fun c491 h492 => ?_) (fun c491 h506 => ?_)))))))))))
    ·refine wc_region (wm rfl (ck h492 fun g493 h494 => wv (o_mul rfl rfl g493) (wm rfl (wm rfl (ck h494 fun g495 h496 => wv (o_index_b yu9 rfl rfl g495) (ck h496 fun g497 h498 => wv (o_sub rfl rfl g497) (ck h498 fun g499 h500 => wv (o_conv_int ⟨_, yu5⟩ yu3 rfl g499) (ck h500 fun g501 h502 => wv (o_add rfl rfl g501) (wa rfl (wl_x (wc_region (wm rfl (ck h502 fun g503 h504 => wv (o_add rfl rfl g503) (wa rfl (wl_nil (wk_in_norm ?_))))))))))))))))
     have h505 := stp_next h504 ht478
     exact wk_then (wk_some (m479, (x444 + 1, (10 * x445) + ((bat s x444) - 48)), ()) ⟨h505, Nat.lt_succ_self _⟩ (Sub.c5 rfl rfl rfl rfl rfl Sub.nil) sN)
    ·refine wc_skip (wk_x (wc_region (wm rfl (ck h506 fun g507 h508 => wv (o_add rfl rfl g507) (wa rfl (wl_nil (wk_in_norm ?_)))))))
     have h509 := stp_next h508 ht478
     exact wk_then (wk_some (m479, (x444 + 1, x445), ()) ⟨h509, Nat.lt_succ_self _⟩ (Sub.c5 rfl rfl rfl rfl rfl Sub.nil) sN)
   ·refine wc_exit (wk_then_exit ?_)
    have h511 := stp_go h510 ht478 hK476
    exact wk_then_exit (wk_cut_hit (wk_some ((x444, x445), ()) h511 (Sub.c5 rfl rfl rfl rfl rfl Sub.nil) sN))
  ·rintro ⟨⟨x472, x473⟩, ⟨⟩⟩ h512
   refine wk_as (l' := [(0, rS s), (1, rI .i64 at_), (6, rI .i64 x472), (7, rI .i64 at_), (8, rI .i64 x473)]) (H' := []) rfl rfl ?_
   replace h512 : rReadInt_k2 s at_ x472 x473 = some r := h512
   unfold rReadInt_k2 at h512
   refine wk_in_hit (wk_x (wc_seq (ck h512 fun g513 h514 => wc_seq_mid [(1, rI .i64 at_), (6, rI .i64 x472), (7, rI .i64 at_), (8, rI .i64 x473), (66, rB ((decide (x472 = at_)) || ((decide ((bat s at_) = 48)) && ((decide ((at_ + 1) < x472)) || (decide (at_ < at_))))))] [] ?_ ?_)))
   ·refine wc_region (wm rfl (wm rfl (wv (o_eq rfl rfl) (wm rfl (bsplit (decide (x472 = at_)) (fun c515 => ?_) (fun c515 => ?_))))))
    ·refine wf c515 (wf c515 (wf c515 (wf c515 (wf c515 (wu (wu (wu (wu (wu (wu (wu (wu (wu (wf c515 (wv (r := rB true) (o_pick_t rfl c515 rfl) (wl_nil ?_))))))))))))))))
     exact wtc c515
    ·refine wo c515 (wm rfl (wo c515 (wm rfl (wo c515 (wv (o_index_b yu9 rfl rfl g1) (wo c515 (wv (o_eq rfl rfl) (wo c515 (wm rfl (bsplit (decide ((bat s at_) = 48)) (fun c516 => ?_) (fun c516 => ?_)))))))))))
     ·refine wo c516 (wm rfl (wo c516 (wm rfl (wo c516 (wv (o_add rfl rfl (imp_t (imp_f g513 c515) c516)) (wo c516 (wv (o_gt rfl rfl) (wo c516 (wm rfl (bsplit (decide ((at_ + 1) < x472)) (fun c517 => ?_) (fun c517 => ?_)))))))))))
      ·refine wf c517 (wf c517 (wf c517 (wo c516 (wv (r := rB true) (o_pick_t rfl c517 rfl) (wo c515 (wpt rfl c516 rfl (wpf rfl c515 rfl (wl_nil ?_))))))))
       exact wtc (And.intro c515 (And.intro c516 c517))
      ·refine wo c517 (wm rfl (wo c517 (wm rfl (wo c517 (wv (o_gt rfl rfl) (wo c516 (wpf rfl c517 rfl (wo c515 (wpt rfl c516 rfl (wpf rfl c515 rfl (wl_nil ?_)))))))))))
       exact wtc (And.intro c515 (And.intro c516 c517))
     ·refine wf c516 (wf c516 (wf c516 (wf c516 (wf c516 (wu (wu (wu (wf c516 (wo c515 (wv (r := rB false) (o_pick_f rfl c516 rfl) (wpf rfl c515 rfl (wl_nil ?_))))))))))))
      exact wtc (And.intro c515 c516)
   refine cz h514 rfl (fun c518 h519 => ?_) (fun c518 h520 => ?_)
   ·refine wc_sr (wa rfl (wv (r := rI .i64 (-1)) (o_assign rfl) (wl_x (wc_ret (wk_then_ret (WK.up (d := 4) (r := rSl 4 (List.map eTApiCell ([] : List TApiCell))) rfl (Up.le (Rle.nil _)) ?_))))))
    obtain rfl := some_e h519
    exact wk_ret (r_2 yr88 (rv_t rfl) (rv_t rfl)) sN ⟨rfl, rfl⟩
   ·refine wc_skip (wk_x (wc_seq (wc_sr (wm rfl (wm rfl (ck h520 fun g521 h522 => wv (o_sub rfl rfl g521) (wv (o_gt rfl rfl) (wl_x (cz h522 rfl (fun c523 h524 => ?_) (fun c523 h532 => ?_))))))))))
    ·refine wc_region (wa rfl (wl_x (wc_seq (wc_sr (wm rfl (wm rfl (wv (o_gt rfl rfl) (wl_x (cz h524 rfl (fun c525 h526 => ?_) (fun c525 h530 => ?_))))))))))
     ·refine wc_region (wm rfl (ck h526 fun g527 h528 => wv (o_neg rfl g527) (wa rfl (wl_y (wm rfl (wv (r := rAgg [rI .i64 3, rI .i64 (-2000000000000), rS ([] : Str), rI .i64 0]) (o_build51_0_1 rfl rfl rfl rfl) (w_buildSlice (ys := ([(TApiCell.mk 3 (-2000000000000) ([] : Str) 0)] : List TApiCell)) (enc := eTApiCell) (css := [[rI .i64 3, rI .i64 (-2000000000000), rS ([] : Str), rI .i64 0]]) (xs := [.tmp 77]) yu23 ys51 yz51 rfl rfl rfl ⟨Cel.agg ⟨Up.refl _, Up.refl _, Up.refl _, Up.refl _, trivial⟩, trivial⟩ rfl eTApiCell_len rfl rfl rfl (fun b529 => ?_))))))))
      refine wm rfl (wa rfl (wa rfl (wl_x (wc_ret (WK.freeze (i := 0) rfl (WK.up (d := 4) (r := rSl 4 (List.map eTApiCell ([(TApiCell.mk 3 (-2000000000000) ([] : Str) 0)] : List TApiCell))) rfl (Up.fact (i := 0) rfl) ?_))))))
      obtain rfl := some_e h528
      exact wk_ret (r_2 yr88 (rv_t rfl) (rv_t rfl)) (sS sN) ⟨rfl, rfl⟩
     ·refine wc_skip (wk_x (wc_sr (wm rfl (wv (r := rAgg [rI .i64 3, rI .i64 2000000000000, rS ([] : Str), rI .i64 0]) (o_build51_0_1 rfl rfl rfl rfl) (w_buildSlice (ys := ([(TApiCell.mk 3 2000000000000 ([] : Str) 0)] : List TApiCell)) (enc := eTApiCell) (css := [[rI .i64 3, rI .i64 2000000000000, rS ([] : Str), rI .i64 0]]) (xs := [.tmp 77]) yu23 ys51 yz51 rfl rfl rfl ⟨Cel.agg ⟨Up.refl _, Up.refl _, Up.refl _, Up.refl _, trivial⟩, trivial⟩ rfl eTApiCell_len rfl rfl rfl (fun b531 => ?_))))))
      refine wm rfl (wa rfl (wa rfl (wl_x (wc_ret (WK.freeze (i := 0) rfl (WK.up (d := 4) (r := rSl 4 (List.map eTApiCell ([(TApiCell.mk 3 2000000000000 ([] : Str) 0)] : List TApiCell))) rfl (Up.fact (i := 0) rfl) ?_))))))
      obtain rfl := some_e h530
      exact wk_ret (r_2 yr88 (rv_t rfl) (rv_t rfl)) (sS sN) ⟨rfl, rfl⟩
    ·refine wc_skip (wk_x (wc_seq (wc_sr (wm rfl (wm rfl (wv (o_gt rfl rfl) (wl_x (cz h532 rfl (fun c533 h534 => ?_) (fun c533 h538 => ?_)))))))))
     ·refine wc_region (wm rfl (ck h534 fun g535 h536 => wv (o_neg rfl g535) (wa rfl (wl_y (wm rfl (wv (r := rAgg [rI .i64 3, rI .i64 (-x473), rS ([] : Str), rI .i64 0]) (o_build51_0_1 rfl rfl rfl rfl) (w_buildSlice (ys := ([(TApiCell.mk 3 (-x473) ([] : Str) 0)] : List TApiCell)) (enc := eTApiCell) (css := [[rI .i64 3, rI .i64 (-x473), rS ([] : Str), rI .i64 0]]) (xs := [.tmp 77]) yu23 ys51 yz51 rfl rfl rfl ⟨Cel.agg ⟨Up.refl _, Up.refl _, Up.refl _, Up.refl _, trivial⟩, trivial⟩ rfl eTApiCell_len rfl rfl rfl (fun b537 => ?_))))))))
      refine wm rfl (wa rfl (wa rfl (wl_x (wc_ret (WK.freeze (i := 0) rfl (WK.up (d := 4) (r := rSl 4 (List.map eTApiCell ([(TApiCell.mk 3 (-x473) ([] : Str) 0)] : List TApiCell))) rfl (Up.fact (i := 0) rfl) ?_))))))
      obtain rfl := some_e h536
      exact wk_ret (r_2 yr88 (rv_t rfl) (rv_t rfl)) (sS sN) ⟨rfl, rfl⟩
     ·refine wc_skip (wk_x (wc_sr (wm rfl (wv (r := rAgg [rI .i64 3, rI .i64 x473, rS ([] : Str), rI .i64 0]) (o_build51_0_1 rfl rfl rfl rfl) (w_buildSlice (ys := ([(TApiCell.mk 3 x473 ([] : Str) 0)] : List TApiCell)) (enc := eTApiCell) (css := [[rI .i64 3, rI .i64 x473, rS ([] : Str), rI .i64 0]]) (xs := [.tmp 77]) yu23 ys51 yz51 rfl rfl rfl ⟨Cel.agg ⟨Up.refl _, Up.refl _, Up.refl _, Up.refl _, trivial⟩, trivial⟩ rfl eTApiCell_len rfl rfl rfl (fun b539 => ?_))))))
      refine wm rfl (wa rfl (wa rfl (wl_x (wc_ret (WK.freeze (i := 0) rfl (WK.up (d := 4) (r := rSl 4 (List.map eTApiCell ([(TApiCell.mk 3 x473 ([] : Str) 0)] : List TApiCell))) rfl (Up.fact (i := 0) rfl) ?_))))))
      obtain rfl := some_e h538
      exact wk_ret (r_2 yr88 (rv_t rfl) (rv_t rfl)) (sS sN) ⟨rfl, rfl⟩

theorem rReadm_w (F : Nat) (rec_rReadMany : Str → Int → Option ((List TApiCell) × Int)) (ih_rReadMany : (∀ (s : Str) (at_ : Int) (r : (List TApiCell) × Int), rec_rReadMany s at_ = some r → Fn Tryz.prog GE 87 [rS s, rI .i64 at_] [] (fun R H => R = rTup [rSl 4 (List.map eTApiCell r.1), rI .i64 r.2] ∧ H = []))) (s : Str) (at_ : Int) (r : (List TApiCell) × Int) (h : rReadm F rec_rReadMany s at_ = some r) : Fn Tryz.prog GE 63 [rS s, rI .i64 at_] [] (fun R H => R = rTup [rSl 4 (List.map eTApiCell r.1), rI .i64 r.2] ∧ H = []) := by
 refine enter (n := 64) Tryz.func63 rfl Tryz.ntmps63 rfl (fun w Z => ?_)
 unfold rReadm at h
 refine wc_sr (wa rfl (wa rfl (wl_x (wc_seq (wc_sr (wm rfl (wm rfl (wv (o_len_s yu9 rfl) (wv (o_ge rfl rfl) (wl_x (cz h rfl (fun c1 h2 => ?_) (fun c1 h3 => ?_))))))))))))
 ·refine wc_sr (wa rfl (wv (r := rI .i64 (-1)) (o_assign rfl) (wl_x (wc_ret (wk_then_ret (WK.up (d := 4) (r := rSl 4 (List.map eTApiCell ([] : List TApiCell))) rfl (Up.le (Rle.nil _)) ?_))))))
  obtain rfl := some_e h2
  exact wk_ret (r_2 yr63 (rv_t rfl) (rv_t rfl)) sN ⟨rfl, rfl⟩
 ·refine wc_skip (wk_x (wc_seq (wc_sr (wm rfl (wm rfl (ob h3 fun r4 e6 h5 => wc0 yk83 (rStarts_w s at_ ([110, 117, 108, 108] : Str) r4 e6) rfl (wl_x (cz h5 rfl (fun c7 h8 => ?_) (fun c7 h14 => ?_)))))))))
  ·refine wc_sr (ob h8 fun r9 e11 h10 => wc0 Tryz.call84 (rNull_w r9 e11) rfl (wm rfl (ck h10 fun g12 h13 => wv (o_add rfl rfl g12) (wa rfl (wa rfl (wl_x (wc_ret (wk_then_ret ?_))))))))
   obtain rfl := some_e h13
   exact wk_ret (r_2 yr63 (rv_t rfl) (rv_t rfl)) sN ⟨rfl, rfl⟩
  ·refine wc_skip (wk_x (wc_seq (wc_sr (wm rfl (wm rfl (ob h14 fun r15 e17 h16 => wc0 yk83 (rStarts_w s at_ ([116, 114, 117, 101] : Str) r15 e17) rfl (wl_x (cz h16 rfl (fun c18 h19 => ?_) (fun c18 h25 => ?_)))))))))
   ·refine wc_sr (ob h19 fun r20 e22 h21 => wc0 Tryz.call85 (rBool_w true r20 e22) rfl (wm rfl (ck h21 fun g23 h24 => wv (o_add rfl rfl g23) (wa rfl (wa rfl (wl_x (wc_ret (wk_then_ret ?_))))))))
    obtain rfl := some_e h24
    exact wk_ret (r_2 yr63 (rv_t rfl) (rv_t rfl)) sN ⟨rfl, rfl⟩
   ·refine wc_skip (wk_x (wc_seq (wc_sr (wm rfl (wm rfl (ob h25 fun r26 e28 h27 => wc0 yk83 (rStarts_w s at_ ([102, 97, 108, 115, 101] : Str) r26 e28) rfl (wl_x (cz h27 rfl (fun c29 h30 => ?_) (fun c29 h36 => ?_)))))))))
    ·refine wc_sr (ob h30 fun r31 e33 h32 => wc0 Tryz.call85 (rBool_w false r31 e33) rfl (wm rfl (ck h32 fun g34 h35 => wv (o_add rfl rfl g34) (wa rfl (wa rfl (wl_x (wc_ret (wk_then_ret ?_))))))))
     obtain rfl := some_e h35
     exact wk_ret (r_2 yr63 (rv_t rfl) (rv_t rfl)) sN ⟨rfl, rfl⟩
    ·refine wc_skip (wk_x (wc_seq (wc_sr (wm rfl (wm rfl (ck h36 fun g37 h38 => wv (o_index_b yu9 rfl rfl g37) (wv (o_eq rfl rfl) (wl_x (cz h38 rfl (fun c39 h40 => ?_) (fun c39 h45 => ?_))))))))))
     ·refine wc_sr (wm rfl (wm rfl (ob h40 fun r41 e43 h42 => wc0 Tryz.call86 (rReadString_w F s at_ r41 e43) rfl (wm rfl (wv (o_extract rfl rfl) (wv (o_extract rfl rfl) (wa rfl (wa rfl (wl_y (wm rfl (wv (r := rAgg [rI .i64 4, rI .i64 0, rS r41.1, rI .i64 0]) (o_build51_0_2 rfl rfl rfl rfl) (w_buildSlice (ys := ([(TApiCell.mk 4 0 r41.1 0)] : List TApiCell)) (enc := eTApiCell) (css := [[rI .i64 4, rI .i64 0, rS r41.1, rI .i64 0]]) (xs := [.tmp 41]) yu23 ys51 yz51 rfl rfl rfl ⟨Cel.agg ⟨Up.refl _, Up.refl _, Up.refl _, Up.refl _, trivial⟩, trivial⟩ rfl eTApiCell_len rfl rfl rfl (fun b44 => ?_)))))))))))))
      refine wm rfl (wa rfl (wa rfl (wl_x (wc_ret (wk_then_ret (WK.freeze (i := 0) rfl (WK.up (d := 4) (r := rSl 4 (List.map eTApiCell ([(TApiCell.mk 4 0 r41.1 0)] : List TApiCell))) rfl (Up.fact (i := 0) rfl) ?_)))))))
      obtain rfl := some_e h42
      exact wk_ret (r_2 yr63 (rv_t rfl) (rv_t rfl)) (sS sN) ⟨rfl, rfl⟩
     ·refine wc_skip (wk_x (wc_seq (wc_seq_mid [(0, rS s), (1, rI .i64 at_), (53, rB ((decide ((bat s at_) = 91)) || (decide ((bat s at_) = 123))))] [] ?_ ?_)))
      ·refine wc_region (wm rfl (wm rfl (wv (o_index_b yu9 rfl rfl g37) (wv (o_eq rfl rfl) (wm rfl (bsplit (decide ((bat s at_) = 91)) (fun c46 => ?_) (fun c46 => ?_)))))))
       ·refine wf c46 (wf c46 (wf c46 (wf c46 (wv (r := rB true) (o_pick_t rfl c46 rfl) (wl_nil ?_)))))
        exact wtc c46
       ·refine wo c46 (wm rfl (wo c46 (wm rfl (wo c46 (wv (o_index_b yu9 rfl rfl g37) (wo c46 (wv (o_eq rfl rfl) (wpf rfl c46 rfl (wl_nil ?_)))))))))
        exact wtc c46
      refine cz h45 rfl (fun c47 h48 => ?_) (fun c47 h52 => ?_)
      ·refine wc_sr (wm rfl (wm rfl (ob h48 fun r49 e51 h50 => wc0 Tryz.call87 (ih_rReadMany s at_ r49 e51) rfl (wv (o_extract rfl rfl) (wv (o_extract rfl rfl) (wa rfl (wa rfl (wl_x (wc_ret (wk_then_ret ?_))))))))))
       obtain rfl := some_e h50
       exact wk_ret (r_2 yr63 (rv_t rfl) (rv_t rfl)) sN ⟨rfl, rfl⟩
      ·refine wc_skip (wk_x (wc_sr (wm rfl (wm rfl (ob h52 fun r53 e55 h54 => wc0 Tryz.call88 (rReadInt_w F s at_ r53 e55) rfl (wv (o_extract rfl rfl) (wv (o_extract rfl rfl) (wa rfl (wa rfl (wl_x (wc_ret ?_)))))))))))
       obtain rfl := some_e h54
       exact wk_ret (r_2 yr63 (rv_t rfl) (rv_t rfl)) sN ⟨rfl, rfl⟩

theorem rReadManym_w (F : Nat) (rec_rRead : Str → Int → Option ((List TApiCell) × Int)) (ih_rRead : (∀ (s : Str) (at_ : Int) (r : (List TApiCell) × Int), rec_rRead s at_ = some r → Fn Tryz.prog GE 63 [rS s, rI .i64 at_] [] (fun R H => R = rTup [rSl 4 (List.map eTApiCell r.1), rI .i64 r.2] ∧ H = []))) (s : Str) (at_ : Int) (r : (List TApiCell) × Int) (h : rReadManym F rec_rRead s at_ = some r) : Fn Tryz.prog GE 87 [rS s, rI .i64 at_] [] (fun R H => R = rTup [rSl 4 (List.map eTApiCell r.1), rI .i64 r.2] ∧ H = []) := by
 refine enter (n := 98) Tryz.func87 rfl Tryz.ntmps87 rfl (fun w Z => ?_)
 unfold rReadManym at h
 refine wc_sr (wa rfl (wa rfl (wl_y (wv (r := rAgg [rI .i64 5, rI .i64 0, rS ([] : Str), rI .i64 0]) (o_build51_0 rfl rfl) (w_alloc (cs := [rI .i64 0, rI .i64 0, rS ([] : Str), rI .i64 0]) yz51 rfl rfl (fun b1 => ?_))))))
 refine u_store_agg (i := 0) ys51 rfl rfl rfl (OneAll.c rfl) rfl rfl (cs' := [rI .i64 5, rI .i64 0, rS ([] : Str), rI .i64 0]) rfl (H' := [.blk b1 [rI .i64 5, rI .i64 0, rS ([] : Str), rI .i64 0] 51]) rfl (wl_y (wv (r := rS ([93] : Str)) (o_assign rfl) (wl_x (wc_seq (wc_sr (wm rfl (wm rfl (ck h fun g2 h3 => wv (o_index_b yu9 rfl rfl g2) (wv (o_eq rfl rfl) (wl_x (cz h3 rfl (fun c4 h5 => ?_) (fun c4 h635 => ?_))))))))))))
 ·refine wc_sr (vF yu51 rfl ys49 (u_store (i := 0) ys49 rfl rfl (one_c rfl) rfl rfl (cs' := [rI .i64 6, rI .i64 0, rS ([] : Str), rI .i64 0]) rfl (H' := [.blk b1 [rI .i64 6, rI .i64 0, rS ([] : Str), rI .i64 0] 51]) rfl (wl_x (wc_region (wv (r := rS ([125] : Str)) (o_assign rfl) (wl_y (wa rfl (wl_y (wm rfl (ck h5 fun g6 h7 => wv (o_add rfl rfl g6) (wa rfl (wl_x (wc_seq (wc_block (WC.nilrow (e := 51) (sz := 4) (wc_perm (H2 := [.blk b1 [rI .i64 6, rI .i64 0, rS ([] : Str), rI .i64 0] 51, .row (.slice none 0 0                                                   ) 51 4 (List.map eTApiCell ([] : List TApiCell))]) ((perm_front (i := 1) rfl).trans (List.Perm.cons _ (List.Perm.refl _))) (ob h7 fun o530 eo531 hK532 => wc_loop2 (S := Nat × ((List TApiCell) × Int × TApiCell) × (Value)) (V := ((List TApiCell) × Int × TApiCell) × (Value)) 0 (fun σ => lop (fun σ => rReadMany_b1 F s rec_rRead σ.1 σ.2.1 σ.2.2) σ.1 σ.2.1 = some o530) (fun σ => [(0, rS s), (6, rP b1 0), (7, rS ([125] : Str)), (8, rv σ.2.2), (9, rI .i64 σ.2.1.2.1)]) (fun σ => [.blk b1 (eTApiCell σ.2.1.2.2) 51, .row σ.2.2 51 4 (List.map eTApiCell σ.2.1.1)]) (fun σ => σ.1) (F, (([] : List TApiCell), at_ + 1, (TApiCell.mk 6 0 ([] : Str) 0)), (.slice none 0 0                                                   )) eo531 (Sub.c5 rfl rfl rfl rfl rfl Sub.nil) (sC (sC sN)) (fun σ => rReadMany_k1 σ.1.1 σ.1.2.1 σ.1.2.2 = some r) (fun σ => [(6, rP b1 0), (8, rv σ.2), (9, rI .i64 σ.1.2.1)]) (fun σ => [.blk b1 (eTApiCell σ.1.2.2) 51, .row σ.2 51 4 (List.map eTApiCell σ.1.1)]) ?_ ?_)))))))))))))))))
  ·rintro ⟨n538, ⟨x443, x445, x446⟩, v444⟩ hi536
   refine wc_as (l' := [(0, rS s), (6, rP b1 0), (7, rS ([125] : Str)), (8, rv v444), (9, rI .i64 x445)]) (H' := [.blk b1 (eTApiCell x446) 51, .row v444 51 4 (List.map eTApiCell x443)]) rfl rfl ?_
   obtain ⟨m535, rfl, t533, h537, ht534⟩ := lop_e hi536
   replace h537 : rReadMany_b1 F s rec_rRead x443 x445 x446 = some t533 := h537
   unfold rReadMany_b1 at h537
   refine wc_seq (ck h537 fun g539 h540 => ck h540 fun g541 h542 => ck h542 fun g543 h544 => wc_seq_mid [(0, rS s), (6, rP b1 0), (7, rS ([125] : Str)), (8, rv v444), (9, rI .i64 x445), (39, rB ((!(ov (rStarts s x445 ([125] : Str)))) || ((decide (0 < x446.fN)) && (decide ((bat s (x445 - 1)) = 44)))))] [.blk b1 (eTApiCell x446) 51, .row v444 51 4 (List.map eTApiCell x443)] ?_ ?_)
   ·refine wc_region (wm rfl (wm rfl (wm rfl (wc0 yk83 (rStarts_w s x445 ([125] : Str) (ov (rStarts s x445 ([125] : Str))) (ov_e g539)) rfl (wv (o_not rfl) (wm rfl (bsplit (!(ov (rStarts s x445 ([125] : Str)))) (fun c545 => ?_) (fun c545 => ?_))))))))
    ·refine wf c545 (wf c545 (wf c545 (wf c545 (wu (wu (wu (wu (wu (wf c545 (wv (r := rB true) (o_pick_t rfl c545 rfl) (wl_nil ?_)))))))))))
     exact wtc c545
    ·refine wo c545 (vF yu51 rfl ys3 (wo c545 (vL 0 ya3 rfl (wo c545 (wv (o_gt rfl rfl) (wo c545 (wm rfl (bsplit (decide (0 < x446.fN)) (fun c546 => ?_) (fun c546 => ?_)))))))))
     ·refine wo c546 (wm rfl (wo c546 (wm rfl (wo c546 (wv (o_sub rfl rfl (imp_t (imp_f g541 c545) c546)) (wo c546 (wv (o_index_b yu9 rfl rfl (imp_t (imp_f g543 c545) c546)) (wo c546 (wv (o_eq rfl rfl) (wo c545 (wpt rfl c546 rfl (wpf rfl c545 rfl (wl_nil ?_)))))))))))))
      exact wtc (And.intro c545 c546)
     ·refine wf c546 (wf c546 (wf c546 (wf c546 (wf c546 (wo c545 (wv (r := rB false) (o_pick_f rfl c546 rfl) (wpf rfl c545 rfl (wl_nil ?_))))))))
      exact wtc (And.intro c545 c546)
   refine cz h544 rfl (fun c547 h548 => ?_) (fun c547 h626 => ?_)
   ·refine wc_skip (wk_x (wc_block (wc_seq (wc_sr (vF yu51 rfl ys49 (vL 0 ya49 rfl (wv (o_eq rfl rfl) (wl_x (cz h548 rfl (fun c549 h550 => ?_) (fun c549 h596 => ?_))))))))))
    ·refine wc_sr (wm rfl (wm rfl (ob h550 fun r551 e553 h552 => wc0 Tryz.call86 (rReadString_w F s x445 r551 e553) rfl (wm rfl (wv (o_extract rfl rfl) (wv (o_extract rfl rfl) (wa rfl (wa rfl (wl_x (wc_seq (ck h552 fun g554 h555 => wc_seq_mid [(0, rS s), (6, rP b1 0), (7, rS ([125] : Str)), (8, rv v444), (10, rS r551.1), (11, rI .i64 r551.2), (56, rB ((decide (r551.2 < 0)) || (!(ov (rStarts s r551.2 ([58] : Str))))))] [.blk b1 (eTApiCell x446) 51, .row v444 51 4 (List.map eTApiCell x443)] ?_ ?_)))))))))))
     ·refine wc_region (wm rfl (wv (o_lt rfl rfl) (wm rfl (bsplit (decide (r551.2 < 0)) (fun c556 => ?_) (fun c556 => ?_)))))
      ·refine wf c556 (wf c556 (wf c556 (wf c556 (wv (r := rB true) (o_pick_t rfl c556 rfl) (wl_nil ?_)))))
       exact wtc c556
      ·refine wo c556 (wm rfl (wo c556 (wm rfl (wo c556 (wc0 yk83 (rStarts_w s r551.2 ([58] : Str) (ov (rStarts s r551.2 ([58] : Str))) (ov_e (imp_f g554 c556))) rfl (wo c556 (wv (o_not rfl) (wpf rfl c556 rfl (wl_nil ?_)))))))))
       exact wtc c556
     refine cz h555 rfl (fun c557 h558 => ?_) (fun c557 h560 => ?_)
     ·refine wc_sr (wa rfl (wv (r := rI .i64 (-1)) (o_assign rfl) (wl_x (wc_ret (wk_then_ret (wk_then_ret (wk_in_ret (wk_then_ret (wk_cut_ret ?_)))))))))
      have h559 := stp_ret h558 ht534 hK532
      refine wk_in_ret (wk_then_ret (WK.up (d := 4) (r := rSl 4 (List.map eTApiCell ([] : List TApiCell))) rfl (Up.le (Rle.nil _)) ?_))
      obtain rfl := some_e h559
      exact wk_ret (r_2 yr87 (rv_t rfl) (rv_t rfl)) (sS (sS sN)) ⟨rfl, rfl⟩
     ·refine wc_skip (wk_x (wc_sr (wm rfl (wm rfl (wv (r := rAgg [rI .i64 4, rI .i64 0, rS r551.1, rI .i64 0]) (o_build51_0_2 rfl rfl rfl rfl) (w_buildSlice (ys := ([(TApiCell.mk 4 0 r551.1 0)] : List TApiCell)) (enc := eTApiCell) (css := [[rI .i64 4, rI .i64 0, rS r551.1, rI .i64 0]]) (xs := [.tmp 59]) yu23 ys51 yz51 rfl rfl rfl ⟨Cel.agg ⟨Up.refl _, Up.refl _, Up.refl _, Up.refl _, trivial⟩, trivial⟩ rfl eTApiCell_len rfl rfl rfl (fun b561 => ?_)))))))
      refine ck h560 fun g563 h564 => Exists.elim info51 fun inf hinf => w_append (xs := x443) (ys := ([(TApiCell.mk 4 0 r551.1 0)] : List TApiCell)) (enc := eTApiCell) (i := 2) yu23 hinf.1 hinf.2.1 hinf.2.2.1 hinf.2.2.2 rfl rfl rfl rfl rfl (Src.w (i := 0) rfl rfl) eTApiCell_len eTApiCell_one g563 rfl (fun v562 => ?_)
      refine wa rfl (wl_x (wc_region (wm rfl (ck h564 fun g565 h566 => wv (o_add rfl rfl g565) (wa rfl (wl_y (wm rfl (wm rfl (ob h566 fun r567 e569 h568 => wc0 yk63 (ih_rRead s (r551.2 + 1) r567 e569) rfl (wm rfl (wv (o_extract rfl rfl) (wv (o_extract rfl rfl) (wa rfl (wa rfl (wl_x (wc_seq (wc_sr (wm rfl (wv (o_lt rfl rfl) (wl_x (cz h568 rfl (fun c570 h571 => ?_) (fun c570 h573 => ?_))))))))))))))))))))))
      ·refine wc_sr (wa rfl (wv (r := rI .i64 (-1)) (o_assign rfl) (wl_x (wc_ret (wk_then_ret (wk_in_ret (wk_then_ret (wk_cut_ret ?_))))))))
       have h572 := stp_ret h571 ht534 hK532
       refine wk_in_ret (wk_then_ret (WK.up (d := 4) (r := rSl 4 (List.map eTApiCell ([] : List TApiCell))) rfl (Up.le (Rle.nil _)) ?_))
       obtain rfl := some_e h572
       exact wk_ret (r_2 yr87 (rv_t rfl) (rv_t rfl)) (sS (sS (sS sN))) ⟨rfl, rfl⟩
      ·refine wc_skip (wk_x (wc_sr (wm rfl (wm rfl (ck h573 fun g575 h576 => Exists.elim info51 fun inf hinf => w_append (xs := x443 ++ ([(TApiCell.mk 4 0 r551.1 0)] : List TApiCell)) (ys := r567.1) (enc := eTApiCell) (i := 0) yu23 hinf.1 hinf.2.1 hinf.2.2.1 hinf.2.2.2 rfl rfl rfl rfl rfl (Src.z rfl rfl) eTApiCell_len eTApiCell_one g575 rfl (fun v574 => ?_))))))
       refine wa rfl (wl_y (vF yu51 rfl ys3 (vL 2 ya3 rfl (ck h576 fun g577 h578 => wv (o_add rfl rfl g577) (vF yu51 rfl ys3 (u_store (i := 2) ys3 rfl rfl (one_c rfl) rfl rfl (cs' := [rI .i64 x446.fKind, rI .i64 x446.fInt, rS x446.fStr, rI .i64 (x446.fN + 1)]) rfl (H' := [.row v574 51 4 (List.map eTApiCell ((x443 ++ ([(TApiCell.mk 4 0 r551.1 0)] : List TApiCell)) ++ r567.1)), .row (.slice (some ⟨b561, 0, none⟩) 1 1) 51 4 (List.map eTApiCell ([(TApiCell.mk 4 0 r551.1 0)] : List TApiCell)), .blk b1 [rI .i64 x446.fKind, rI .i64 x446.fInt, rS x446.fStr, rI .i64 (x446.fN + 1)] 51]) rfl (wl_y (wm rfl (wa rfl (wl_y (wm rfl (wm rfl (ob h578 fun r579 e581 h580 => wc0 yk83 (rStarts_w s r567.2 ([44] : Str) r579 e581) rfl (wl_x (cz h580 rfl (fun c582 h583 => ?_) (fun c582 h587 => ?_))))))))))))))))
       ·refine wc_region (wm rfl (ck h583 fun g584 h585 => wv (o_add rfl rfl g584) (wa rfl (wl_nil (wk_in_norm (wk_perm (H2 := [.blk b1 [rI .i64 x446.fKind, rI .i64 x446.fInt, rS x446.fStr, rI .i64 (x446.fN + 1)] 51, .row v574 51 4 (List.map eTApiCell ((x443 ++ ([(TApiCell.mk 4 0 r551.1 0)] : List TApiCell)) ++ r567.1)), .row (.slice (some ⟨b561, 0, none⟩) 1 1) 51 4 (List.map eTApiCell ([(TApiCell.mk 4 0 r551.1 0)] : List TApiCell))]) ((perm_front (i := 2) rfl).trans (List.Perm.cons _ (List.Perm.refl _))) ?_))))))
        have h586 := stp_next h585 ht534
        exact wk_then (wk_some (m535, ((x443 ++ ([(TApiCell.mk 4 0 r551.1 0)] : List TApiCell)) ++ r567.1, r567.2 + 1, (TApiCell.mk x446.fKind x446.fInt x446.fStr (x446.fN + 1))), v574) ⟨h586, Nat.lt_succ_self _⟩ (Sub.c5 rfl rfl rfl rfl rfl Sub.nil) (sC (sC (sS sN))))
       ·refine wc_sr (wm rfl (wm rfl (wm rfl (ob h587 fun r588 e590 h589 => wc0 yk83 (rStarts_w s r567.2 ([125] : Str) r588 e590) rfl (wv (o_not rfl) (wl_x (cz h589 rfl (fun c591 h592 => ?_) (fun c591 h594 => ?_))))))))
        ·refine wc_sr (wa rfl (wv (r := rI .i64 (-1)) (o_assign rfl) (wl_x (wc_ret (wk_in_ret (wk_then_ret (wk_cut_ret ?_)))))))
         have h593 := stp_ret h592 ht534 hK532
         refine wk_in_ret (wk_then_ret (WK.up (d := 4) (r := rSl 4 (List.map eTApiCell ([] : List TApiCell))) rfl (Up.le (Rle.nil _)) ?_))
         obtain rfl := some_e h593
         exact wk_ret (r_2 yr87 (rv_t rfl) (rv_t rfl)) (sS (sS (sS sN))) ⟨rfl, rfl⟩
        ·refine wc_skip (wk_in_norm (wk_perm (H2 := [.blk b1 [rI .i64 x446.fKind, rI .i64 x446.fInt, rS x446.fStr, rI .i64 (x446.fN + 1)] 51, .row v574 51 4 (List.map eTApiCell ((x443 ++ ([(TApiCell.mk 4 0 r551.1 0)] : List TApiCell)) ++ r567.1)), .row (.slice (some ⟨b561, 0, none⟩) 1 1) 51 4 (List.map eTApiCell ([(TApiCell.mk 4 0 r551.1 0)] : List TApiCell))]) ((perm_front (i := 2) rfl).trans (List.Perm.cons _ (List.Perm.refl _))) ?_))
         have h595 := stp_next h594 ht534
         exact wk_then (wk_some (m535, ((x443 ++ ([(TApiCell.mk 4 0 r551.1 0)] : List TApiCell)) ++ r567.1, r567.2, (TApiCell.mk x446.fKind x446.fInt x446.fStr (x446.fN + 1))), v574) ⟨h595, Nat.lt_succ_self _⟩ (Sub.c5 rfl rfl rfl rfl rfl Sub.nil) (sC (sC (sS sN))))
    ·refine wc_skip (wk_x (wc_sr (wm rfl (wm rfl (ob h596 fun r597 e599 h598 => wc0 yk63 (ih_rRead s x445 r597 e599) rfl (wm rfl (wv (o_extract rfl rfl) (wv (o_extract rfl rfl) (wa rfl (wa rfl (wl_x (wc_seq (wc_sr (wm rfl (wv (o_lt rfl rfl) (wl_x (cz h598 rfl (fun c600 h601 => ?_) (fun c600 h603 => ?_))))))))))))))))))
     ·refine wc_sr (wa rfl (wv (r := rI .i64 (-1)) (o_assign rfl) (wl_x (wc_ret (wk_then_ret (wk_in_ret (wk_then_ret (wk_cut_ret ?_))))))))
      have h602 := stp_ret h601 ht534 hK532
      refine wk_in_ret (wk_then_ret (WK.up (d := 4) (r := rSl 4 (List.map eTApiCell ([] : List TApiCell))) rfl (Up.le (Rle.nil _)) ?_))
      obtain rfl := some_e h602
      exact wk_ret (r_2 yr87 (rv_t rfl) (rv_t rfl)) (sS (sS sN)) ⟨rfl, rfl⟩
     ·refine wc_skip (wk_x (wc_sr (wm rfl (wm rfl (ck h603 fun g605 h606 => Exists.elim info51 fun inf hinf => w_append (xs := x443) (ys := r597.1) (enc := eTApiCell) (i := 1) yu23 hinf.1 hinf.2.1 hinf.2.2.1 hinf.2.2.2 rfl rfl rfl rfl rfl (Src.z rfl rfl) eTApiCell_len eTApiCell_one g605 rfl (fun v604 => ?_))))))
      refine wa rfl (wl_y (vF yu51 rfl ys3 (vL 1 ya3 rfl (ck h606 fun g607 h608 => wv (o_add rfl rfl g607) (vF yu51 rfl ys3 (u_store (i := 1) ys3 rfl rfl (one_c rfl) rfl rfl (cs' := [rI .i64 x446.fKind, rI .i64 x446.fInt, rS x446.fStr, rI .i64 (x446.fN + 1)]) rfl (H' := [.row v604 51 4 (List.map eTApiCell (x443 ++ r597.1)), .blk b1 [rI .i64 x446.fKind, rI .i64 x446.fInt, rS x446.fStr, rI .i64 (x446.fN + 1)] 51]) rfl (wl_y (wm rfl (wa rfl (wl_y (wm rfl (wm rfl (ob h608 fun r609 e611 h610 => wc0 yk83 (rStarts_w s r597.2 ([44] : Str) r609 e611) rfl (wl_x (cz h610 rfl (fun c612 h613 => ?_) (fun c612 h617 => ?_))))))))))))))))
      ·refine wc_region (wm rfl (ck h613 fun g614 h615 => wv (o_add rfl rfl g614) (wa rfl (wl_nil (wk_in_norm (wk_perm (H2 := [.blk b1 [rI .i64 x446.fKind, rI .i64 x446.fInt, rS x446.fStr, rI .i64 (x446.fN + 1)] 51, .row v604 51 4 (List.map eTApiCell (x443 ++ r597.1))]) ((perm_front (i := 1) rfl).trans (List.Perm.cons _ (List.Perm.refl _))) ?_))))))
       have h616 := stp_next h615 ht534
       exact wk_then (wk_some (m535, (x443 ++ r597.1, r597.2 + 1, (TApiCell.mk x446.fKind x446.fInt x446.fStr (x446.fN + 1))), v604) ⟨h616, Nat.lt_succ_self _⟩ (Sub.c5 rfl rfl rfl rfl rfl Sub.nil) (sC (sC sN)))
      ·refine wc_sr (wm rfl (wm rfl (wm rfl (ob h617 fun r618 e620 h619 => wc0 yk83 (rStarts_w s r597.2 ([125] : Str) r618 e620) rfl (wv (o_not rfl) (wl_x (cz h619 rfl (fun c621 h622 => ?_) (fun c621 h624 => ?_))))))))
       ·refine wc_sr (wa rfl (wv (r := rI .i64 (-1)) (o_assign rfl) (wl_x (wc_ret (wk_in_ret (wk_then_ret (wk_cut_ret ?_)))))))
        have h623 := stp_ret h622 ht534 hK532
        refine wk_in_ret (wk_then_ret (WK.up (d := 4) (r := rSl 4 (List.map eTApiCell ([] : List TApiCell))) rfl (Up.le (Rle.nil _)) ?_))
        obtain rfl := some_e h623
        exact wk_ret (r_2 yr87 (rv_t rfl) (rv_t rfl)) (sS (sS sN)) ⟨rfl, rfl⟩
       ·refine wc_skip (wk_in_norm (wk_perm (H2 := [.blk b1 [rI .i64 x446.fKind, rI .i64 x446.fInt, rS x446.fStr, rI .i64 (x446.fN + 1)] 51, .row v604 51 4 (List.map eTApiCell (x443 ++ r597.1))]) ((perm_front (i := 1) rfl).trans (List.Perm.cons _ (List.Perm.refl _))) ?_))
        have h625 := stp_next h624 ht534
        exact wk_then (wk_some (m535, (x443 ++ r597.1, r597.2, (TApiCell.mk x446.fKind x446.fInt x446.fStr (x446.fN + 1))), v604) ⟨h625, Nat.lt_succ_self _⟩ (Sub.c5 rfl rfl rfl rfl rfl Sub.nil) (sC (sC sN)))
   ·refine wc_exit (wk_then_exit ?_)
    have h627 := stp_go h626 ht534 hK532
    exact wk_then_exit (wk_cut_hit (wk_some ((x443, x445, x446), v444) h627 (Sub.c rfl (Sub.c rfl (Sub.c rfl Sub.nil))) (sC (sC sN))))
  ·rintro ⟨⟨x526, x528, x529⟩, v527⟩ h628
   refine wk_as (l' := [(6, rP b1 0), (8, rv v527), (9, rI .i64 x528)]) (H' := [.blk b1 (eTApiCell x529) 51, .row v527 51 4 (List.map eTApiCell x526)]) rfl rfl ?_
   replace h628 : rReadMany_k1 x526 x528 x529 = some r := h628
   unfold rReadMany_k1 at h628
   refine wk_in_hit (wk_x (wc_sr (wv (o_load_agg (i := 0) ya51 ys51 rfl rfl rfl rfl) (w_buildSlice (ys := ([x529] : List TApiCell)) (enc := eTApiCell) (css := [[rI .i64 x529.fKind, rI .i64 x529.fInt, rS x529.fStr, rI .i64 x529.fN]]) (xs := [.tmp 90]) yu23 ys51 yz51 rfl rfl rfl ⟨Cel.agg ⟨Up.refl _, Up.refl _, Up.refl _, Up.refl _, trivial⟩, trivial⟩ rfl eTApiCell_len rfl rfl rfl (fun b629 => ?_)))))
   refine wa rfl (wl_y (wm rfl (wm rfl (ck h628 fun g631 h632 => Exists.elim info51 fun inf hinf => w_append (xs := ([x529] : List TApiCell)) (ys := x526) (enc := eTApiCell) (i := 0) yu23 hinf.1 hinf.2.1 hinf.2.2.1 hinf.2.2.2 rfl rfl rfl rfl rfl (Src.w (i := 2) rfl rfl) eTApiCell_len eTApiCell_one g631 rfl (fun v630 => ?_)))))
   refine wa rfl (wl_y (wm rfl (wm rfl (ck h632 fun g633 h634 => wv (o_add rfl rfl g633) (wa rfl (wa rfl (wl_x (wc_ret (WK.freeze (i := 0) rfl (WK.up (d := 4) (r := rSl 4 (List.map eTApiCell (([x529] : List TApiCell) ++ x526))) rfl (Up.fact (i := 0) rfl) ?_))))))))))
   obtain rfl := some_e h634
   exact wk_ret (r_2 yr87 (rv_t rfl) (rv_t rfl)) (sS (sS (sS sN))) ⟨rfl, rfl⟩
 ·refine wc_skip (wk_x (wc_sr (wa rfl (wl_y (wm rfl (ck h635 fun g636 h637 => wv (o_add rfl rfl g636) (wa rfl (wl_x (wc_seq (wc_block (WC.nilrow (e := 51) (sz := 4) (wc_perm (H2 := [.blk b1 [rI .i64 5, rI .i64 0, rS ([] : Str), rI .i64 0] 51, .row (.slice none 0 0                                                   ) 51 4 (List.map eTApiCell ([] : List TApiCell))]) ((perm_front (i := 1) rfl).trans (List.Perm.cons _ (List.Perm.refl _))) (ob h637 fun o1130 eo1131 hK1132 => wc_loop2 (S := Nat × ((List TApiCell) × Int × TApiCell) × (Value)) (V := ((List TApiCell) × Int × TApiCell) × (Value)) 0 (fun σ => lop (fun σ => rReadMany_b2 F s rec_rRead σ.1 σ.2.1 σ.2.2) σ.1 σ.2.1 = some o1130) (fun σ => [(0, rS s), (6, rP b1 0), (7, rS ([93] : Str)), (8, rv σ.2.2), (9, rI .i64 σ.2.1.2.1)]) (fun σ => [.blk b1 (eTApiCell σ.2.1.2.2) 51, .row σ.2.2 51 4 (List.map eTApiCell σ.2.1.1)]) (fun σ => σ.1) (F, (([] : List TApiCell), at_ + 1, (TApiCell.mk 5 0 ([] : Str) 0)), (.slice none 0 0                                                   )) eo1131 (Sub.c5 rfl rfl rfl rfl rfl Sub.nil) (sC (sC sN)) (fun σ => rReadMany_k2 σ.1.1 σ.1.2.1 σ.1.2.2 = some r) (fun σ => [(6, rP b1 0), (8, rv σ.2), (9, rI .i64 σ.1.2.1)]) (fun σ => [.blk b1 (eTApiCell σ.1.2.2) 51, .row σ.2 51 4 (List.map eTApiCell σ.1.1)]) ?_ ?_)))))))))))))
  ·rintro ⟨n1138, ⟨x1043, x1045, x1046⟩, v1044⟩ hi1136
   refine wc_as (l' := [(0, rS s), (6, rP b1 0), (7, rS ([93] : Str)), (8, rv v1044), (9, rI .i64 x1045)]) (H' := [.blk b1 (eTApiCell x1046) 51, .row v1044 51 4 (List.map eTApiCell x1043)]) rfl rfl ?_
   obtain ⟨m1135, rfl, t1133, h1137, ht1134⟩ := lop_e hi1136
   replace h1137 : rReadMany_b2 F s rec_rRead x1043 x1045 x1046 = some t1133 := h1137
   unfold rReadMany_b2 at h1137
   refine wc_seq (ck h1137 fun g1139 h1140 => ck h1140 fun g1141 h1142 => ck h1142 fun g1143 h1144 => wc_seq_mid [(0, rS s), (6, rP b1 0), (7, rS ([93] : Str)), (8, rv v1044), (9, rI .i64 x1045), (39, rB ((!(ov (rStarts s x1045 ([93] : Str)))) || ((decide (0 < x1046.fN)) && (decide ((bat s (x1045 - 1)) = 44)))))] [.blk b1 (eTApiCell x1046) 51, .row v1044 51 4 (List.map eTApiCell x1043)] ?_ ?_)
   ·refine wc_region (wm rfl (wm rfl (wm rfl (wc0 yk83 (rStarts_w s x1045 ([93] : Str) (ov (rStarts s x1045 ([93] : Str))) (ov_e g1139)) rfl (wv (o_not rfl) (wm rfl (bsplit (!(ov (rStarts s x1045 ([93] : Str)))) (fun c1145 => ?_) (fun c1145 => ?_))))))))
    ·refine wf c1145 (wf c1145 (wf c1145 (wf c1145 (wu (wu (wu (wu (wu (wf c1145 (wv (r := rB true) (o_pick_t rfl c1145 rfl) (wl_nil ?_)))))))))))
     exact wtc c1145
    ·refine wo c1145 (vF yu51 rfl ys3 (wo c1145 (vL 0 ya3 rfl (wo c1145 (wv (o_gt rfl rfl) (wo c1145 (wm rfl (bsplit (decide (0 < x1046.fN)) (fun c1146 => ?_) (fun c1146 => ?_)))))))))
     ·refine wo c1146 (wm rfl (wo c1146 (wm rfl (wo c1146 (wv (o_sub rfl rfl (imp_t (imp_f g1141 c1145) c1146)) (wo c1146 (wv (o_index_b yu9 rfl rfl (imp_t (imp_f g1143 c1145) c1146)) (wo c1146 (wv (o_eq rfl rfl) (wo c1145 (wpt rfl c1146 rfl (wpf rfl c1145 rfl (wl_nil ?_)))))))))))))
      exact wtc (And.intro c1145 c1146)
     ·refine wf c1146 (wf c1146 (wf c1146 (wf c1146 (wf c1146 (wo c1145 (wv (r := rB false) (o_pick_f rfl c1146 rfl) (wpf rfl c1145 rfl (wl_nil ?_))))))))
      exact wtc (And.intro c1145 c1146)
   refine cz h1144 rfl (fun c1147 h1148 => ?_) (fun c1147 h1226 => ?_)
   ·refine wc_skip (wk_x (wc_block (wc_seq (wc_sr (vF yu51 rfl ys49 (vL 0 ya49 rfl (wv (o_eq rfl rfl) (wl_x (cz h1148 rfl (fun c1149 h1150 => ?_) (fun c1149 h1196 => ?_))))))))))
    ·refine wc_sr (wm rfl (wm rfl (ob h1150 fun r1151 e1153 h1152 => wc0 Tryz.call86 (rReadString_w F s x1045 r1151 e1153) rfl (wm rfl (wv (o_extract rfl rfl) (wv (o_extract rfl rfl) (wa rfl (wa rfl (wl_x (wc_seq (ck h1152 fun g1154 h1155 => wc_seq_mid [(0, rS s), (6, rP b1 0), (7, rS ([93] : Str)), (8, rv v1044), (10, rS r1151.1), (11, rI .i64 r1151.2), (56, rB ((decide (r1151.2 < 0)) || (!(ov (rStarts s r1151.2 ([58] : Str))))))] [.blk b1 (eTApiCell x1046) 51, .row v1044 51 4 (List.map eTApiCell x1043)] ?_ ?_)))))))))))
     ·refine wc_region (wm rfl (wv (o_lt rfl rfl) (wm rfl (bsplit (decide (r1151.2 < 0)) (fun c1156 => ?_) (fun c1156 => ?_)))))
      ·refine wf c1156 (wf c1156 (wf c1156 (wf c1156 (wv (r := rB true) (o_pick_t rfl c1156 rfl) (wl_nil ?_)))))
       exact wtc c1156
      ·refine wo c1156 (wm rfl (wo c1156 (wm rfl (wo c1156 (wc0 yk83 (rStarts_w s r1151.2 ([58] : Str) (ov (rStarts s r1151.2 ([58] : Str))) (ov_e (imp_f g1154 c1156))) rfl (wo c1156 (wv (o_not rfl) (wpf rfl c1156 rfl (wl_nil ?_)))))))))
       exact wtc c1156
     refine cz h1155 rfl (fun c1157 h1158 => ?_) (fun c1157 h1160 => ?_)
     ·refine wc_sr (wa rfl (wv (r := rI .i64 (-1)) (o_assign rfl) (wl_x (wc_ret (wk_then_ret (wk_then_ret (wk_in_ret (wk_then_ret (wk_cut_ret ?_)))))))))
      have h1159 := stp_ret h1158 ht1134 hK1132
      refine wk_in_ret (wk_then_ret (WK.up (d := 4) (r := rSl 4 (List.map eTApiCell ([] : List TApiCell))) rfl (Up.le (Rle.nil _)) ?_))
      obtain rfl := some_e h1159
      exact wk_ret (r_2 yr87 (rv_t rfl) (rv_t rfl)) (sS (sS sN)) ⟨rfl, rfl⟩
     ·refine wc_skip (wk_x (wc_sr (wm rfl (wm rfl (wv (r := rAgg [rI .i64 4, rI .i64 0, rS r1151.1, rI .i64 0]) (o_build51_0_2 rfl rfl rfl rfl) (w_buildSlice (ys := ([(TApiCell.mk 4 0 r1151.1 0)] : List TApiCell)) (enc := eTApiCell) (css := [[rI .i64 4, rI .i64 0, rS r1151.1, rI .i64 0]]) (xs := [.tmp 59]) yu23 ys51 yz51 rfl rfl rfl ⟨Cel.agg ⟨Up.refl _, Up.refl _, Up.refl _, Up.refl _, trivial⟩, trivial⟩ rfl eTApiCell_len rfl rfl rfl (fun b1161 => ?_)))))))
      refine ck h1160 fun g1163 h1164 => Exists.elim info51 fun inf hinf => w_append (xs := x1043) (ys := ([(TApiCell.mk 4 0 r1151.1 0)] : List TApiCell)) (enc := eTApiCell) (i := 2) yu23 hinf.1 hinf.2.1 hinf.2.2.1 hinf.2.2.2 rfl rfl rfl rfl rfl (Src.w (i := 0) rfl rfl) eTApiCell_len eTApiCell_one g1163 rfl (fun v1162 => ?_)
      refine wa rfl (wl_x (wc_region (wm rfl (ck h1164 fun g1165 h1166 => wv (o_add rfl rfl g1165) (wa rfl (wl_y (wm rfl (wm rfl (ob h1166 fun r1167 e1169 h1168 => wc0 yk63 (ih_rRead s (r1151.2 + 1) r1167 e1169) rfl (wm rfl (wv (o_extract rfl rfl) (wv (o_extract rfl rfl) (wa rfl (wa rfl (wl_x (wc_seq (wc_sr (wm rfl (wv (o_lt rfl rfl) (wl_x (cz h1168 rfl (fun c1170 h1171 => ?_) (fun c1170 h1173 => ?_))))))))))))))))))))))
      ·refine wc_sr (wa rfl (wv (r := rI .i64 (-1)) (o_assign rfl) (wl_x (wc_ret (wk_then_ret (wk_in_ret (wk_then_ret (wk_cut_ret ?_))))))))
       have h1172 := stp_ret h1171 ht1134 hK1132
       refine wk_in_ret (wk_then_ret (WK.up (d := 4) (r := rSl 4 (List.map eTApiCell ([] : List TApiCell))) rfl (Up.le (Rle.nil _)) ?_))
       obtain rfl := some_e h1172
       exact wk_ret (r_2 yr87 (rv_t rfl) (rv_t rfl)) (sS (sS (sS sN))) ⟨rfl, rfl⟩
      ·refine wc_skip (wk_x (wc_sr (wm rfl (wm rfl (ck h1173 fun g1175 h1176 => Exists.elim info51 fun inf hinf => w_append (xs := x1043 ++ ([(TApiCell.mk 4 0 r1151.1 0)] : List TApiCell)) (ys := r1167.1) (enc := eTApiCell) (i := 0) yu23 hinf.1 hinf.2.1 hinf.2.2.1 hinf.2.2.2 rfl rfl rfl rfl rfl (Src.z rfl rfl) eTApiCell_len eTApiCell_one g1175 rfl (fun v1174 => ?_))))))
       refine wa rfl (wl_y (vF yu51 rfl ys3 (vL 2 ya3 rfl (ck h1176 fun g1177 h1178 => wv (o_add rfl rfl g1177) (vF yu51 rfl ys3 (u_store (i := 2) ys3 rfl rfl (one_c rfl) rfl rfl (cs' := [rI .i64 x1046.fKind, rI .i64 x1046.fInt, rS x1046.fStr, rI .i64 (x1046.fN + 1)]) rfl (H' := [.row v1174 51 4 (List.map eTApiCell ((x1043 ++ ([(TApiCell.mk 4 0 r1151.1 0)] : List TApiCell)) ++ r1167.1)), .row (.slice (some ⟨b1161, 0, none⟩) 1 1) 51 4 (List.map eTApiCell ([(TApiCell.mk 4 0 r1151.1 0)] : List TApiCell)), .blk b1 [rI .i64 x1046.fKind, rI .i64 x1046.fInt, rS x1046.fStr, rI .i64 (x1046.fN + 1)] 51]) rfl (wl_y (wm rfl (wa rfl (wl_y (wm rfl (wm rfl (ob h1178 fun r1179 e1181 h1180 => wc0 yk83 (rStarts_w s r1167.2 ([44] : Str) r1179 e1181) rfl (wl_x (cz h1180 rfl (fun c1182 h1183 => ?_) (fun c1182 h1187 => ?_))))))))))))))))
       ·refine wc_region (wm rfl (ck h1183 fun g1184 h1185 => wv (o_add rfl rfl g1184) (wa rfl (wl_nil (wk_in_norm (wk_perm (H2 := [.blk b1 [rI .i64 x1046.fKind, rI .i64 x1046.fInt, rS x1046.fStr, rI .i64 (x1046.fN + 1)] 51, .row v1174 51 4 (List.map eTApiCell ((x1043 ++ ([(TApiCell.mk 4 0 r1151.1 0)] : List TApiCell)) ++ r1167.1)), .row (.slice (some ⟨b1161, 0, none⟩) 1 1) 51 4 (List.map eTApiCell ([(TApiCell.mk 4 0 r1151.1 0)] : List TApiCell))]) ((perm_front (i := 2) rfl).trans (List.Perm.cons _ (List.Perm.refl _))) ?_))))))
        have h1186 := stp_next h1185 ht1134
        exact wk_then (wk_some (m1135, ((x1043 ++ ([(TApiCell.mk 4 0 r1151.1 0)] : List TApiCell)) ++ r1167.1, r1167.2 + 1, (TApiCell.mk x1046.fKind x1046.fInt x1046.fStr (x1046.fN + 1))), v1174) ⟨h1186, Nat.lt_succ_self _⟩ (Sub.c5 rfl rfl rfl rfl rfl Sub.nil) (sC (sC (sS sN))))
       ·refine wc_sr (wm rfl (wm rfl (wm rfl (ob h1187 fun r1188 e1190 h1189 => wc0 yk83 (rStarts_w s r1167.2 ([93] : Str) r1188 e1190) rfl (wv (o_not rfl) (wl_x (cz h1189 rfl (fun c1191 h1192 => ?_) (fun c1191 h1194 => ?_))))))))
        ·refine wc_sr (wa rfl (wv (r := rI .i64 (-1)) (o_assign rfl) (wl_x (wc_ret (wk_in_ret (wk_then_ret (wk_cut_ret ?_)))))))
         have h1193 := stp_ret h1192 ht1134 hK1132
         refine wk_in_ret (wk_then_ret (WK.up (d := 4) (r := rSl 4 (List.map eTApiCell ([] : List TApiCell))) rfl (Up.le (Rle.nil _)) ?_))
         obtain rfl := some_e h1193
         exact wk_ret (r_2 yr87 (rv_t rfl) (rv_t rfl)) (sS (sS (sS sN))) ⟨rfl, rfl⟩
        ·refine wc_skip (wk_in_norm (wk_perm (H2 := [.blk b1 [rI .i64 x1046.fKind, rI .i64 x1046.fInt, rS x1046.fStr, rI .i64 (x1046.fN + 1)] 51, .row v1174 51 4 (List.map eTApiCell ((x1043 ++ ([(TApiCell.mk 4 0 r1151.1 0)] : List TApiCell)) ++ r1167.1)), .row (.slice (some ⟨b1161, 0, none⟩) 1 1) 51 4 (List.map eTApiCell ([(TApiCell.mk 4 0 r1151.1 0)] : List TApiCell))]) ((perm_front (i := 2) rfl).trans (List.Perm.cons _ (List.Perm.refl _))) ?_))
         have h1195 := stp_next h1194 ht1134
         exact wk_then (wk_some (m1135, ((x1043 ++ ([(TApiCell.mk 4 0 r1151.1 0)] : List TApiCell)) ++ r1167.1, r1167.2, (TApiCell.mk x1046.fKind x1046.fInt x1046.fStr (x1046.fN + 1))), v1174) ⟨h1195, Nat.lt_succ_self _⟩ (Sub.c5 rfl rfl rfl rfl rfl Sub.nil) (sC (sC (sS sN))))
    ·refine wc_skip (wk_x (wc_sr (wm rfl (wm rfl (ob h1196 fun r1197 e1199 h1198 => wc0 yk63 (ih_rRead s x1045 r1197 e1199) rfl (wm rfl (wv (o_extract rfl rfl) (wv (o_extract rfl rfl) (wa rfl (wa rfl (wl_x (wc_seq (wc_sr (wm rfl (wv (o_lt rfl rfl) (wl_x (cz h1198 rfl (fun c1200 h1201 => ?_) (fun c1200 h1203 => ?_))))))))))))))))))
     ·refine wc_sr (wa rfl (wv (r := rI .i64 (-1)) (o_assign rfl) (wl_x (wc_ret (wk_then_ret (wk_in_ret (wk_then_ret (wk_cut_ret ?_))))))))
      have h1202 := stp_ret h1201 ht1134 hK1132
      refine wk_in_ret (wk_then_ret (WK.up (d := 4) (r := rSl 4 (List.map eTApiCell ([] : List TApiCell))) rfl (Up.le (Rle.nil _)) ?_))
      obtain rfl := some_e h1202
      exact wk_ret (r_2 yr87 (rv_t rfl) (rv_t rfl)) (sS (sS sN)) ⟨rfl, rfl⟩
     ·refine wc_skip (wk_x (wc_sr (wm rfl (wm rfl (ck h1203 fun g1205 h1206 => Exists.elim info51 fun inf hinf => w_append (xs := x1043) (ys := r1197.1) (enc := eTApiCell) (i := 1) yu23 hinf.1 hinf.2.1 hinf.2.2.1 hinf.2.2.2 rfl rfl rfl rfl rfl (Src.z rfl rfl) eTApiCell_len eTApiCell_one g1205 rfl (fun v1204 => ?_))))))
      refine wa rfl (wl_y (vF yu51 rfl ys3 (vL 1 ya3 rfl (ck h1206 fun g1207 h1208 => wv (o_add rfl rfl g1207) (vF yu51 rfl ys3 (u_store (i := 1) ys3 rfl rfl (one_c rfl) rfl rfl (cs' := [rI .i64 x1046.fKind, rI .i64 x1046.fInt, rS x1046.fStr, rI .i64 (x1046.fN + 1)]) rfl (H' := [.row v1204 51 4 (List.map eTApiCell (x1043 ++ r1197.1)), .blk b1 [rI .i64 x1046.fKind, rI .i64 x1046.fInt, rS x1046.fStr, rI .i64 (x1046.fN + 1)] 51]) rfl (wl_y (wm rfl (wa rfl (wl_y (wm rfl (wm rfl (ob h1208 fun r1209 e1211 h1210 => wc0 yk83 (rStarts_w s r1197.2 ([44] : Str) r1209 e1211) rfl (wl_x (cz h1210 rfl (fun c1212 h1213 => ?_) (fun c1212 h1217 => ?_))))))))))))))))
      ·refine wc_region (wm rfl (ck h1213 fun g1214 h1215 => wv (o_add rfl rfl g1214) (wa rfl (wl_nil (wk_in_norm (wk_perm (H2 := [.blk b1 [rI .i64 x1046.fKind, rI .i64 x1046.fInt, rS x1046.fStr, rI .i64 (x1046.fN + 1)] 51, .row v1204 51 4 (List.map eTApiCell (x1043 ++ r1197.1))]) ((perm_front (i := 1) rfl).trans (List.Perm.cons _ (List.Perm.refl _))) ?_))))))
       have h1216 := stp_next h1215 ht1134
       exact wk_then (wk_some (m1135, (x1043 ++ r1197.1, r1197.2 + 1, (TApiCell.mk x1046.fKind x1046.fInt x1046.fStr (x1046.fN + 1))), v1204) ⟨h1216, Nat.lt_succ_self _⟩ (Sub.c5 rfl rfl rfl rfl rfl Sub.nil) (sC (sC sN)))
      ·refine wc_sr (wm rfl (wm rfl (wm rfl (ob h1217 fun r1218 e1220 h1219 => wc0 yk83 (rStarts_w s r1197.2 ([93] : Str) r1218 e1220) rfl (wv (o_not rfl) (wl_x (cz h1219 rfl (fun c1221 h1222 => ?_) (fun c1221 h1224 => ?_))))))))
       ·refine wc_sr (wa rfl (wv (r := rI .i64 (-1)) (o_assign rfl) (wl_x (wc_ret (wk_in_ret (wk_then_ret (wk_cut_ret ?_)))))))
        have h1223 := stp_ret h1222 ht1134 hK1132
        refine wk_in_ret (wk_then_ret (WK.up (d := 4) (r := rSl 4 (List.map eTApiCell ([] : List TApiCell))) rfl (Up.le (Rle.nil _)) ?_))
        obtain rfl := some_e h1223
        exact wk_ret (r_2 yr87 (rv_t rfl) (rv_t rfl)) (sS (sS sN)) ⟨rfl, rfl⟩
       ·refine wc_skip (wk_in_norm (wk_perm (H2 := [.blk b1 [rI .i64 x1046.fKind, rI .i64 x1046.fInt, rS x1046.fStr, rI .i64 (x1046.fN + 1)] 51, .row v1204 51 4 (List.map eTApiCell (x1043 ++ r1197.1))]) ((perm_front (i := 1) rfl).trans (List.Perm.cons _ (List.Perm.refl _))) ?_))
        have h1225 := stp_next h1224 ht1134
        exact wk_then (wk_some (m1135, (x1043 ++ r1197.1, r1197.2, (TApiCell.mk x1046.fKind x1046.fInt x1046.fStr (x1046.fN + 1))), v1204) ⟨h1225, Nat.lt_succ_self _⟩ (Sub.c5 rfl rfl rfl rfl rfl Sub.nil) (sC (sC sN)))
   ·refine wc_exit (wk_then_exit ?_)
    have h1227 := stp_go h1226 ht1134 hK1132
    exact wk_then_exit (wk_cut_hit (wk_some ((x1043, x1045, x1046), v1044) h1227 (Sub.c rfl (Sub.c rfl (Sub.c rfl Sub.nil))) (sC (sC sN))))
  ·rintro ⟨⟨x1126, x1128, x1129⟩, v1127⟩ h1228
   refine wk_as (l' := [(6, rP b1 0), (8, rv v1127), (9, rI .i64 x1128)]) (H' := [.blk b1 (eTApiCell x1129) 51, .row v1127 51 4 (List.map eTApiCell x1126)]) rfl rfl ?_
   replace h1228 : rReadMany_k2 x1126 x1128 x1129 = some r := h1228
   unfold rReadMany_k2 at h1228
   refine wk_in_hit (wk_x (wc_sr (wv (o_load_agg (i := 0) ya51 ys51 rfl rfl rfl rfl) (w_buildSlice (ys := ([x1129] : List TApiCell)) (enc := eTApiCell) (css := [[rI .i64 x1129.fKind, rI .i64 x1129.fInt, rS x1129.fStr, rI .i64 x1129.fN]]) (xs := [.tmp 90]) yu23 ys51 yz51 rfl rfl rfl ⟨Cel.agg ⟨Up.refl _, Up.refl _, Up.refl _, Up.refl _, trivial⟩, trivial⟩ rfl eTApiCell_len rfl rfl rfl (fun b1229 => ?_)))))
   refine wa rfl (wl_y (wm rfl (wm rfl (ck h1228 fun g1231 h1232 => Exists.elim info51 fun inf hinf => w_append (xs := ([x1129] : List TApiCell)) (ys := x1126) (enc := eTApiCell) (i := 0) yu23 hinf.1 hinf.2.1 hinf.2.2.1 hinf.2.2.2 rfl rfl rfl rfl rfl (Src.w (i := 2) rfl rfl) eTApiCell_len eTApiCell_one g1231 rfl (fun v1230 => ?_)))))
   refine wa rfl (wl_y (wm rfl (wm rfl (ck h1232 fun g1233 h1234 => wv (o_add rfl rfl g1233) (wa rfl (wa rfl (wl_x (wc_ret (WK.freeze (i := 0) rfl (WK.up (d := 4) (r := rSl 4 (List.map eTApiCell (([x1129] : List TApiCell) ++ x1126))) rfl (Up.fact (i := 0) rfl) ?_))))))))))
   obtain rfl := some_e h1234
   exact wk_ret (r_2 yr87 (rv_t rfl) (rv_t rfl)) (sS (sS (sS sN))) ⟨rfl, rfl⟩

theorem rRead_all : ∀ F : Nat, (∀ (s : Str) (at_ : Int) (r : (List TApiCell) × Int), rRead F s at_ = some r → Fn Tryz.prog GE 63 [rS s, rI .i64 at_] [] (fun R H => R = rTup [rSl 4 (List.map eTApiCell r.1), rI .i64 r.2] ∧ H = [])) ∧ (∀ (s : Str) (at_ : Int) (r : (List TApiCell) × Int), rReadMany F s at_ = some r → Fn Tryz.prog GE 87 [rS s, rI .i64 at_] [] (fun R H => R = rTup [rSl 4 (List.map eTApiCell r.1), rI .i64 r.2] ∧ H = []))
  | 0 => ⟨(fun _ _ _ h => by simp [rRead] at h), (fun _ _ _ h => by simp [rReadMany] at h)⟩
  | nn + 1 => ⟨(fun s at_ r h => rReadm_w nn (rReadMany nn) (rRead_all nn).2 s at_ r (by rw [rRead] at h; exact h)), (fun s at_ r h => rReadManym_w nn (rRead nn) (rRead_all nn).1 s at_ r (by rw [rReadMany] at h; exact h))⟩

theorem rRead_w (F : Nat) (s : Str) (at_ : Int) (r : (List TApiCell) × Int) (h : rRead F s at_ = some r) : Fn Tryz.prog GE 63 [rS s, rI .i64 at_] [] (fun R H => R = rTup [rSl 4 (List.map eTApiCell r.1), rI .i64 r.2] ∧ H = []) := (rRead_all F).1 s at_ r h

theorem rDecode_w (F : Nat) (s : Str) (r : (List TApiCell) × Int) (h : rDecode F s = some r) : Fn Tryz.prog GE 33 [rS s] [] (fun R H => R = rTup [rSl 4 (List.map eTApiCell r.1), rI .i64 r.2] ∧ H = []) := by
 refine enter (n := 22) Tryz.func33 rfl Tryz.ntmps33 rfl (fun w Z => ?_)
 unfold rDecode at h
 refine wc_sr (wa rfl (wa rfl (wl_x (wc_seq (wc_sr (wm rfl (wv (o_len_s yu9 rfl) (wv (o_gt rfl rfl) (wl_x (cz h rfl (fun c1 h2 => ?_) (fun c1 h3 => ?_)))))))))))
 ·refine wc_sr (wa rfl (wa rfl (wl_x (wc_ret (wk_then_ret (WK.up (d := 2) (r := rSl 4 (List.map eTApiCell ([] : List TApiCell))) rfl (Up.le (Rle.nil _)) ?_))))))
  obtain rfl := some_e h2
  exact wk_ret (r_2 Tryz.results33 (rv_t rfl) (rv_t rfl)) sN ⟨rfl, rfl⟩
 ·refine wc_skip (wk_x (wc_sr (wm rfl (ob h3 fun r4 e6 h5 => wc0 yk63 (rRead_w F s 0 r4 e6) rfl (wm rfl (wv (o_extract rfl rfl) (wv (o_extract rfl rfl) (wa rfl (wa rfl (wl_x (wc_seq (wc_sr (wm rfl (wm rfl (wv (o_len_s yu9 rfl) (wv (o_ne rfl rfl) (wl_x (cz h5 rfl (fun c7 h8 => ?_) (fun c7 h9 => ?_)))))))))))))))))))
  ·refine wc_sr (wa rfl (wa rfl (wl_x (wc_ret (wk_then_ret (WK.up (d := 2) (r := rSl 4 (List.map eTApiCell ([] : List TApiCell))) rfl (Up.le (Rle.nil _)) ?_))))))
   obtain rfl := some_e h8
   exact wk_ret (r_2 Tryz.results33 (rv_t rfl) (rv_t rfl)) sN ⟨rfl, rfl⟩
  ·refine wc_skip (wk_x (wc_sr (wm rfl (ob h9 fun r10 e12 h11 => wc0 Tryz.call64 (rChecked_w F r4.1 r10 e12) rfl (wv (o_extract rfl rfl) (wv (o_extract rfl rfl) (wa rfl (wa rfl (wl_x (wc_ret ?_))))))))))
   obtain rfl := some_e h11
   exact wk_ret (r_2 Tryz.results33 (rv_t rfl) (rv_t rfl)) sN ⟨rfl, rfl⟩

end Go.Proofs.YtpmiamphppcfeaaGreatDoor.Q

/-
 Bits and shifts of integers. Plain definitions.
-/
namespace Go.Proofs.YtpmiamphppcfeaaGreatDoor
open Go
def iOr (k : IntKind) (x y : Int) : Int := k.wrap ((BitVec.ofInt k.bits x ||| BitVec.ofInt k.bits y).toNat : Int)
def iShl (k : IntKind) (x n : Int) : Int := k.wrap (x * 2 ^ (min n.toNat k.bits))
def iShr (k : IntKind) (x n : Int) : Int := x.fdiv (2 ^ (min n.toNat k.bits))
def cpy {α : Type} (xs ys : List α) : List α := ys.take xs.length ++ xs.drop ys.length
end Go.Proofs.YtpmiamphppcfeaaGreatDoor

/-
 What functions compute, with checks: plain definitions, printed by a small program of ours (gq.py). No program in sight.
-/
namespace Go.Proofs.YtpmiamphppcfeaaGreatDoor
open Go
set_option linter.unusedVariables false
def fPack_b1 (fields : (List Str)) (x40 : (List Int)) (x42 : Int) : Option (Stp ((List Int) × Int) (Out (Str × Int) ((List Int)))) :=
 cnd (decide (x42 < (fields.length : Int))) (chk (inR x42 (fields.length : Int)) <| cnd (decide (4000 < ((at' fields x42).length : Int))) (some (.out (.ret (([] : Str), 3)))) (chk (inA 1 (x40.length + ([IntKind.wrap .u8 (iShr .i64 ((at' fields x42).length : Int) 8), IntKind.wrap .u8 ((at' fields x42).length : Int)] : List Int).length)) <| chk (inA 1 ((x40 ++ ([IntKind.wrap .u8 (iShr .i64 ((at' fields x42).length : Int) 8), IntKind.wrap .u8 ((at' fields x42).length : Int)] : List Int)).length + (at' fields x42).length)) <| chk (inK .i64 (x42 + 1)) <| some (.next ((x40 ++ ([IntKind.wrap .u8 (iShr .i64 ((at' fields x42).length : Int) 8), IntKind.wrap .u8 ((at' fields x42).length : Int)] : List Int)) ++ toI (at' fields x42), x42 + 1)))) (some (.out (.go x40)))

def fPack_k1 (x60 : (List Int)) : Option (Str × Int) :=
 some (ofI x60, 0)

def fPack (F : Nat) (fields : (List Str)) : Option (Str × Int) :=
 cnd (decide (64 < (fields.length : Int))) (some (([] : Str), 3)) (obn (lop (fun σ => fPack_b1 fields σ.1 σ.2) F (([IntKind.wrap .u8 (fields.length : Int)] : List Int), 0)) (oute fun ν => fPack_k1 ν))

def fUnpack_g1 (x157 : Int) : Option ((List Str) × Int) :=
 some (([] : List Str), x157)

def fUnpack_b2 (s : Str) (x231 : Str) (x232 : (List Str)) (x234 : Int) (x235 : Int) : Option (Stp (Str × (List Str) × Int × Int) (Out ((List Str) × Int) (Str × (List Str)))) :=
 cnd (decide (x235 < (bat s 0))) (cnd (decide ((x231.length : Int) < 2)) (obn (fUnpack_g1 14) fun q281 => some (.out (.ret q281))) (chk (inR 0 (x231.length : Int)) <| chk (inK .i64 (bat x231 0)) <| chk (inR 1 (x231.length : Int)) <| chk (inK .i64 (bat x231 1)) <| chk (inC 2 (x231.length : Int)) <| cnd (decide (4000 < (iOr .i64 (iShl .i64 (bat x231 0) 8) (bat x231 1)))) (obn (fUnpack_g1 13) fun q298 => some (.out (.ret q298))) (cnd (decide (((List.drop (Int.toNat 2) x231).length : Int) < (iOr .i64 (iShl .i64 (bat x231 0) 8) (bat x231 1)))) (obn (fUnpack_g1 14) fun q305 => some (.out (.ret q305))) (chk (inC (iOr .i64 (iShl .i64 (bat x231 0) 8) (bat x231 1)) ((List.drop (Int.toNat 2) x231).length : Int)) <| chk (inA 16 (x232.length + ([List.take (Int.toNat (iOr .i64 (iShl .i64 (bat x231 0) 8) (bat x231 1))) (List.drop (Int.toNat 2) x231)] : List Str).length)) <| chk (inK .i64 (x235 + 1)) <| some (.next (List.drop (Int.toNat (iOr .i64 (iShl .i64 (bat x231 0) 8) (bat x231 1))) (List.drop (Int.toNat 2) x231), x232 ++ ([List.take (Int.toNat (iOr .i64 (iShl .i64 (bat x231 0) 8) (bat x231 1))) (List.drop (Int.toNat 2) x231)] : List Str), iOr .i64 (iShl .i64 (bat x231 0) 8) (bat x231 1), x235 + 1)))))) (some (.out (.go (x231, x232))))

def fUnpack_k2 (x265 : Str) (x266 : (List Str)) : Option ((List Str) × Int) :=
 cnd (!decide (x265 = ([] : Str))) (fUnpack_g1 13) (chk (inC (x266.length : Int) (x266.length : Int)) <| some (List.take (Int.toNat (x266.length : Int)) x266, 0))

def fUnpack (F : Nat) (s : Str) : Option ((List Str) × Int) :=
 cnd (decide (s = ([] : Str))) (fUnpack_g1 14) (chk (inR 0 (s.length : Int)) <| chk (inK .i64 (bat s 0)) <| chk (inC 1 (s.length : Int)) <| cnd (decide (64 < (bat s 0))) (fUnpack_g1 13) (obn (lop (fun σ => fUnpack_b2 s σ.1 σ.2.1 σ.2.2.1 σ.2.2.2) F (List.drop (Int.toNat 1) s, ([] : List Str), 0, 0)) (oute fun ν => fUnpack_k2 ν.1 ν.2)))

def r4Unpack_b1 (s : Str) (x97 : (List Str)) (x99 : Int) (x100 : Int) : Option (Stp ((List Str) × Int × Int) (Out ((List Str) × Int) ((List Str) × Int))) :=
 cnd (decide (x100 < (bat s 0))) (chk (inK .i64 ((s.length : Int) - x99)) <| cnd (decide (((s.length : Int) - x99) < 2)) (some (.out (.ret (([] : List Str), 14)))) (chk (inR x99 (s.length : Int)) <| chk (inK .i64 (bat s x99)) <| chk (inK .i64 ((bat s x99) * 256)) <| chk (inK .i64 (x99 + 1)) <| chk (inR (x99 + 1) (s.length : Int)) <| chk (inK .i64 (bat s (x99 + 1))) <| chk (inK .i64 (((bat s x99) * 256) + (bat s (x99 + 1)))) <| cnd (decide (4000 < (((bat s x99) * 256) + (bat s (x99 + 1))))) (some (.out (.ret (([] : List Str), 13)))) (chk (inK .i64 (((s.length : Int) - x99) - 2)) <| cnd (decide ((((s.length : Int) - x99) - 2) < (((bat s x99) * 256) + (bat s (x99 + 1))))) (some (.out (.ret (([] : List Str), 14)))) (chk (inK .i64 (x99 + 2)) <| chk (inK .i64 ((x99 + 2) + (((bat s x99) * 256) + (bat s (x99 + 1))))) <| chk (inC (x99 + 2) ((x99 + 2) + (((bat s x99) * 256) + (bat s (x99 + 1))))) <| chk (inC ((x99 + 2) + (((bat s x99) * 256) + (bat s (x99 + 1)))) (s.length : Int)) <| chk (inA 16 (x97.length + ([List.take (Int.toNat ((x99 + 2) + (((bat s x99) * 256) + (bat s (x99 + 1)))) - Int.toNat (x99 + 2)) (List.drop (Int.toNat (x99 + 2)) s)] : List Str).length)) <| chk (inK .i64 (x100 + 1)) <| some (.next (x97 ++ ([List.take (Int.toNat ((x99 + 2) + (((bat s x99) * 256) + (bat s (x99 + 1)))) - Int.toNat (x99 + 2)) (List.drop (Int.toNat (x99 + 2)) s)] : List Str), (x99 + 2) + (((bat s x99) * 256) + (bat s (x99 + 1))), x100 + 1)))))) (some (.out (.go (x97, x99))))

def r4Unpack_k1 (s : Str) (x145 : (List Str)) (x147 : Int) : Option ((List Str) × Int) :=
 cnd (decide (x147 < (s.length : Int))) (some (([] : List Str), 13)) (some (x145, 0))

def r4Unpack (F : Nat) (s : Str) : Option ((List Str) × Int) :=
 cnd (decide ((s.length : Int) < 1)) (some (([] : List Str), 14)) (chk (inR 0 (s.length : Int)) <| cnd (decide (64 < (bat s 0))) (some (([] : List Str), 13)) (chk (inK .i64 (bat s 0)) <| obn (lop (fun σ => r4Unpack_b1 s σ.1 σ.2.1 σ.2.2) F (([] : List Str), 1, 0)) (oute fun ν => r4Unpack_k1 s ν.1 ν.2)))

end Go.Proofs.YtpmiamphppcfeaaGreatDoor

/-
 Bits and shifts in the calculus. Plain theorems over any program; no condition.
-/
namespace Go.Proofs.YtpmiamphppcfeaaGreatDoor.Q
open Go Go.RowKit
set_option linter.unusedVariables false
set_option linter.unusedSimpArgs false
section
variable {P : Program} {n : Nat} {c : Cx} {l : Fr} {H : List Ent} {d : Option Nat} {x y : Operand} {t t' ty : TypeId} {pos : String} {af : Array Edge} {g : Option (Nat × Bool)} {k k' : IntKind} {p q : Int}
theorem o_or (hx : ev l x = some (rI k p)) (hy : ev l y = some (rI k q)) : ORun P n c l H { dst := d, op := .binOp .or t x y t', type := ty, pos := pos, after := af, guard := g } (rI k (iOr k p q)) := fun a w Z ha _ => o_mk <| by
 simp [execOp, ha.eval hx, ha.eval hy, eqGuard_int, binOp, Op.intBits, iOr]
theorem o_shl (hx : ev l x = some (rI k p)) (hy : ev l y = some (rI k' q)) (h0 : decide (0 ≤ q) = true) : ORun P n c l H { dst := d, op := .binOp .shl t x y t', type := ty, pos := pos, after := af, guard := g } (rI k (iShl k p q)) := fun a w Z ha _ => o_mk <| by
 have h1 : ¬ q < 0 := by have := of_decide_eq_true h0; omega
 simp [execOp, ha.eval hx, ha.eval hy, eqGuard_int, binOp, Op.shift, iShl, h1]
theorem o_shr (hx : ev l x = some (rI k p)) (hy : ev l y = some (rI k' q)) (h0 : decide (0 ≤ q) = true) : ORun P n c l H { dst := d, op := .binOp .shr t x y t', type := ty, pos := pos, after := af, guard := g } (rI k (iShr k p q)) := fun a w Z ha _ => o_mk <| by
 have h1 : ¬ q < 0 := by have := of_decide_eq_true h0; omega
 simp [execOp, ha.eval hx, ha.eval hy, eqGuard_int, binOp, Op.shift, iShr, h1]
end
end Go.Proofs.YtpmiamphppcfeaaGreatDoor.Q

/-
 Arrays of numbers in memory of their own. Plain theorems over any program; no condition.
-/
namespace Go.Proofs.YtpmiamphppcfeaaGreatDoor.Q
open Go Go.RowKit
set_option linter.unusedVariables false
set_option linter.unusedSimpArgs false
section
variable {P : Program} {n : Nat} {c : Cx} {ops : Array Oper} {Q : Exit → Act → World → Prop} {rest : List Oper} {l : Fr} {H H' : List Ent} {d : Nat} {d' : Option Nat} {x y : Operand} {t ty e : TypeId} {pos : String} {af : Array Edge} {g : Option (Nat × Bool)} {k : IntKind} {b i len : Nat} {j : Int}
end
end Go.Proofs.YtpmiamphppcfeaaGreatDoor.Q

/-
 Regions that draw, with operations in a row behind them, and with allocations in any order. Plain theorems over any program; no condition.
-/
namespace Go.Proofs.YtpmiamphppcfeaaGreatDoor.Q
open Go Go.RowKit
set_option linter.unusedVariables false
set_option linter.unusedSimpArgs false
def chainB (ops : List Oper) (N : Nat) : Bool :=
 let cl := cloM ops []
 (List.range ops.length).all (fun i => (bnds (ops.getD i default)).all (· < i)) &&
 (List.range ops.length).all (fun i => i < N || (List.range i).all (fun j => (cl.getD i 0).testBit j))
section
variable {P : Program} {Q : Exit → Act → World → Prop}
theorem count_first {listed : Array Bool} {len m : Nat} (hs : listed.size = len) (hm : m ≤ len) (h : ∀ j, j < len → (listed.getD j true = true ↔ j < m)) : listed.toList.count false = len - m := by
 have : listed.toList = List.replicate m true ++ List.replicate (len - m) false := by
  apply List.ext_getElem
  ·simp [hs]; omega
  ·intro j h1 h2
   have hj : j < len := by simpa [hs] using h1
   have := h j hj
   rw [Array.getD_eq_getD_getElem?, Array.getElem?_eq_getElem (by omega)] at this
   simp only [Option.getD_some] at this
   rw [Array.getElem_toList, List.getElem_append]
   split
   ·rename_i h3
    simp at h3
    simp [this.2 h3]
   ·rename_i h3
    simp at h3
    simp only [List.getElem_replicate]
    cases hb : listed[j] with
    | false => rfl
    | true => have := this.1 hb; omega
 rw [this]; simp [List.count_append, List.count_replicate]
theorem getD_tf {listed : Array Bool} {j : Nat} (h : j < listed.size) (d d' : Bool) : listed.getD j d = listed.getD j d' := by
 simp [Array.getD_eq_getD_getElem?, Array.getElem?_eq_getElem h]
theorem anc_listed {ops : List Oper} {listed : Array Bool} {i : Nat} {o : Oper} (ho : ops[i]? = some o) (hb : ∀ e ∈ bnds o, listed.getD e true = true)
  (hcl : ∀ j o, ops[j]? = some o → listed.getD j true = true → ∀ e ∈ bnds o, listed.getD e true = true) (j : Nat) (h : ((cloM ops []).getD i 0).testBit j = true) : j = i ∨ listed.getD j true = true :=
 cloM_good ops (fun k => k = i ∨ listed.getD k true = true) ops [] (fun t o' ht e he hF => by
  rcases hF with hF | hF
  ·simp at hF; subst hF; rw [ho] at ht; simp at ht; subst ht; exact .inr (hb e he)
  ·exact .inr (hcl t o' ht (by simpa using hF) e he)) (fun j i hb => by simp at hb) i j h (.inl rfl)
theorem ready_bnds {ops : List Oper} {listed : Array Bool} {i : Nat} (hsz : listed.size = ops.length) (hlt : ∀ i, i < ops.length → ∀ e ∈ bnds (ops.getD i default), e < i) (h : i ∈ Region.ready .any ops.toArray listed) :
  listed.getD i true = false ∧ i < ops.length ∧ ∃ o, ops[i]? = some o ∧ ∀ e ∈ bnds o, listed.getD e true = true := by
 obtain ⟨h1, o, ho, h2⟩ := mem_ready.1 h
 have ho' : ops[i]? = some o := by simpa using ho
 have hil := (List.getElem?_eq_some_iff.1 ho').1
 refine ⟨h1, hil, o, ho', fun e he => ?_⟩
 have hei := hlt i hil e (by rw [List.getD_eq_getElem?_getD, ho']; exact he)
 simp only [bnds, List.mem_map, List.mem_filter] at he
 obtain ⟨x, ⟨hx1, hx2⟩, rfl⟩ := he
 have h3 := h2 x (by simpa using hx1) hx2
 rw [getD_tf (by omega) true false]; exact h3
theorem not_ready_all {ops : List Oper} {listed : Array Bool} (hsz : listed.size = ops.length) (hlt : ∀ i, i < ops.length → ∀ e ∈ bnds (ops.getD i default), e < i) (h : Region.ready .any ops.toArray listed = []) :
  ∀ j, j < ops.length → listed.getD j true = true := by
 intro j
 induction j using Nat.strongRecOn with
 | ind j ih =>
  intro hj
  cases hb : listed.getD j true with
  | true => rfl
  | false =>
   have : j ∈ Region.ready .any ops.toArray listed := mem_ready.2 ⟨hb, ops[j], by simp [hj], fun e he hbn => by
    have hel : e.on < j := hlt j hj e.on (by
     rw [List.getD_eq_getElem?_getD, List.getElem?_eq_getElem hj]
     simp only [bnds, Option.getD_some, List.mem_map, List.mem_filter]
     exact ⟨e, ⟨by simpa using he, hbn⟩, rfl⟩)
    rw [getD_tf (by omega) false true]
    exact ih e.on hel (by omega)⟩
   rw [h] at this; cases this
theorem set_iff {listed : Array Bool} {i j : Nat} (hi : i < listed.size) : (listed.setIfInBounds i true).getD j true = true ↔ (j = i ∨ listed.getD j true = true) := by
 by_cases hj : i = j
 ·subst hj; simp [hi]
 ·rw [getD_set_ne true hj]
  exact ⟨.inr, fun h => h.elim (fun h => absurd h.symm hj) id⟩
theorem set_count {listed : Array Bool} {i fuel : Nat} (hi : i < listed.size) (hun : listed.getD i true = false) (hc : listed.toList.count false = fuel + 1) : (listed.setIfInBounds i true).toList.count false = fuel := by
 have hfi : listed.toList[i]? = some false := by
  rw [Array.getD_eq_getD_getElem?, Array.getElem?_eq_getElem hi] at hun
  simp at hun; simp [hi, hun]
 rw [Array.toList_setIfInBounds]
 have h1 := List.count_set (a := true) (b := false) (l := listed.toList) (i := i) (by simpa using hi)
 have h2 : listed.toList[i]'(by simpa using hi) = false := by
  have := List.getElem?_eq_some_iff.1 hfi; exact this.2
 rw [h1, h2, hc]; rfl
theorem wpAny_chain {ops : List Oper} {N : Nat} (hlt : ∀ i, i < ops.length → ∀ e ∈ bnds (ops.getD i default), e < i)
  (hch : ∀ i, N ≤ i → i < ops.length → ∀ j, j < i → ((cloM ops []).getD i 0).testBit j = true) : ∀ (k m : Nat) (listed : Array Bool) (a : Act) (w : World), m + k = ops.length → N ≤ m → listed.size = ops.length →
   (∀ j, j < ops.length → (listed.getD j true = true ↔ j < m)) → (∀ j o, ops[j]? = some o → listed.getD j true = true → ∀ e ∈ bnds o, listed.getD e true = true) → wpList P ops.toArray Q (ops.drop m) a w → wpAny P .any ops.toArray Q k listed a w
 | 0, m, listed, a, w, hk, hN, hsz, hl, hcl, h => by
  refine ⟨?_, ?_⟩
  ·cases hr : Region.ready .any ops.toArray listed with
   | nil => rfl
   | cons i r =>
    obtain ⟨h1, h2, _⟩ := ready_bnds hsz hlt (i := i) (by rw [hr]; simp)
    rw [(hl i h2).2 (by omega)] at h1; cases h1
  ·rw [List.drop_of_length_le (by omega)] at h
   exact h
 | k + 1, m, listed, a, w, hk, hN, hsz, hl, hcl, h => by
  refine ⟨fun hr => ?_, fun i hi => ?_⟩
  ·have := (hl m (by omega)).1 (not_ready_all hsz hlt hr m (by omega)); omega
  ·obtain ⟨h1, h2, o, ho, hb⟩ := ready_bnds hsz hlt hi
   have him : i = m := by
    have hmi : ¬ i < m := fun h' => by rw [(hl i h2).2 h'] at h1; cases h1
    by_cases e : i = m
    ·exact e
    ·rcases anc_listed ho hb hcl m (hch i (by omega) h2 m (by omega)) with h3 | h3
     ·exact h3.symm
     ·have := (hl m (by omega)).1 h3; omega
   subst him
   have hd : ops.drop i = o :: ops.drop (i + 1) := by
    rw [List.drop_eq_getElem_cons h2]
    congr 1
    exact (List.getElem?_eq_some_iff.1 ho).2
   rw [hd] at h
   have ih : ∀ a' w', wpList P ops.toArray Q (ops.drop (i + 1)) a' w' → wpAny P .any ops.toArray Q k (listed.setIfInBounds i true) a' w' := fun a' w' h' => by
    refine wpAny_chain hlt hch k (i + 1) _ a' w' (by omega) (by omega) (by simpa using hsz) (fun j hj => ?_) (fun j o' hj hlj e he => ?_) h'
    ·rw [set_iff (by omega), hl j hj]; omega
    ·rw [set_iff (by omega)] at hlj ⊢
     rcases hlj with rfl | hlj
     ·rw [ho] at hj; simp at hj; subst hj; exact .inr (hb e he)
     ·exact .inr (hcl j o' hj hlj e he)
   unfold wpOp
   have hoA : ops.toArray[i]? = some o := by simpa using ho
   simp only [hoA]
   simp only [wpList] at h
   split
   ·rename_i hw'
    rw [if_pos hw'] at h
    exact h.imp (fun h => Oper.wp_mono ih h) (fun h => h)
   ·rename_i hw'
    rw [if_neg hw'] at h
    exact ih _ _ h
theorem wp_inv {id : Nat} {ops : List Oper} {N : Nat} (hm : P.follows .mixedOrders = true) (hB : chainB ops N = true) (hN : N ≤ ops.length) (I : (Nat → Bool) → Act → World → Prop)
  (hext : ∀ S S' a w, (∀ j, j < N → S j = S' j) → I S a w → I S' a w) {a : Act} {w : World} (h0 : I (fun _ => false) a { w with drawn := w.drawn + 1 })
  (step : ∀ S i o a w, i < N → S i = false → ops[i]? = some o → (∀ e ∈ bnds o, e < i ∧ S e = true) → I S a w → ∀ K : Act → World → Prop, (∀ a' w', I (fun j => j == i || S j) a' w' → K a' w') →
   (Region.wanted o (yielded ops.toArray a.tmps) = true → o.wp P a w K Q) ∧ (Region.wanted o (yielded ops.toArray a.tmps) = false → K (a.put o.dst undef) w))
  (fin : ∀ a w, I (fun _ => true) a w → wpList P ops.toArray Q (ops.drop N) a w) : (Code.region id ops.toArray true).wp P Q a w := by
 simp only [chainB, Bool.and_eq_true, List.all_eq_true, List.mem_range, decide_eq_true_eq, Bool.or_eq_true] at hB
 obtain ⟨hlt, hch0⟩ := hB
 have hch : ∀ i, N ≤ i → i < ops.length → ∀ j, j < i → ((cloM ops []).getD i 0).testBit j = true := fun i h1 h2 j hj => by
  rcases hch0 i h2 with h3 | h3
  ·omega
  ·exact h3 j hj
 refine wp_region_any hm ?_
 have main : ∀ (fuel : Nat) (listed : Array Bool) (a : Act) (w : World), listed.size = ops.length → listed.toList.count false = fuel → I (fun j => listed.getD j true) a w →
   (∀ j o, ops[j]? = some o → listed.getD j true = true → ∀ e ∈ bnds o, listed.getD e true = true) → (∀ j, N ≤ j → j < ops.length → listed.getD j true = false) → wpAny P .any ops.toArray Q fuel listed a w := by
  intro fuel
  have allin : ∀ (fuel : Nat) (listed : Array Bool) (a : Act) (w : World), listed.size = ops.length → listed.toList.count false = fuel → I (fun j => listed.getD j true) a w →
   (∀ j o, ops[j]? = some o → listed.getD j true = true → ∀ e ∈ bnds o, listed.getD e true = true) → (∀ j, N ≤ j → j < ops.length → listed.getD j true = false) → (∀ j, j < N → listed.getD j true = true) → wpAny P .any ops.toArray Q fuel listed a w := by
   intro fuel listed a w hsz hc hI hcl hlast hall
   have hl : ∀ j, j < ops.length → (listed.getD j true = true ↔ j < N) := fun j hj => by
    constructor
    ·intro h
     by_cases hjN : j < N
     ·exact hjN
     ·rw [hlast j (by omega) hj] at h; cases h
    ·exact hall j
   have := count_first hsz hN hl
   refine wpAny_chain hlt hch fuel N listed a w (by omega) (Nat.le_refl _) hsz hl hcl (fin a w (hext _ _ a w (fun j hj => hall j hj) hI))
  induction fuel with
  | zero =>
   intro listed a w hsz hc hI hcl hlast
   refine allin 0 listed a w hsz hc hI hcl hlast (fun j hj => ?_)
   cases hb : listed.getD j true with
   | true => rfl
   | false =>
    have : false ∈ listed.toList := by
     rw [Array.getD_eq_getD_getElem?, Array.getElem?_eq_getElem (by omega)] at hb
     simp at hb; rw [← hb]; simp
    have := List.count_pos_iff.2 this
    omega
  | succ fuel ih =>
   intro listed a w hsz hc hI hcl hlast
   by_cases hall : ∀ j, j < N → listed.getD j true = true
   ·exact allin (fuel + 1) listed a w hsz hc hI hcl hlast hall
   ·refine ⟨fun hr => absurd (fun j hj => not_ready_all hsz hlt hr j (by omega)) hall, fun i hi => ?_⟩
    obtain ⟨h1, h2, o, ho, hb⟩ := ready_bnds hsz hlt hi
    have hiN : i < N := by
     by_cases h : i < N
     ·exact h
     ·refine absurd (fun j hj => ?_) hall
      rcases anc_listed ho hb hcl j (hch i (by omega) h2 j (by omega)) with h3 | h3
      ·omega
      ·exact h3
    have K' : ∀ a' w', I (fun j => j == i || listed.getD j true) a' w' → wpAny P .any ops.toArray Q fuel (listed.setIfInBounds i true) a' w' := fun a' w' hI' => by
     refine ih _ a' w' (by simpa using hsz) (set_count (by omega) h1 hc) (hext _ _ a' w' (fun j hj => ?_) hI') (fun j o' hj hlj e he => ?_) (fun j h3 h4 => ?_)
     ·have := set_iff (listed := listed) (i := i) (j := j) (by omega)
      cases hq : (listed.setIfInBounds i true).getD j true with
      | true =>
       rw [hq] at this
       rcases this.1 rfl with h | h
       ·simp [h]
       ·simp [h]
      | false =>
       rw [hq] at this
       have h5 : ¬ (j = i ∨ listed.getD j true = true) := fun h => by have := this.2 h; cases this
       cases hz : listed.getD j true with
       | true => exact absurd (.inr hz) h5
       | false =>
        have : j ≠ i := fun h => h5 (.inl h)
        simp [this]
     ·rw [set_iff (by omega)] at hlj ⊢
      rcases hlj with rfl | hlj
      ·rw [ho] at hj; simp at hj; subst hj; exact .inr (hb e he)
      ·exact .inr (hcl j o' hj hlj e he)
     ·rw [getD_set_ne true (by omega)]; exact hlast j h3 h4
    obtain ⟨k1, k2⟩ := step _ i o a w hiN h1 ho (fun e he => ⟨hlt i h2 e (by rw [List.getD_eq_getElem?_getD, ho]; exact he), hb e he⟩) hI _ K'
    unfold wpOp
    have hoA : ops.toArray[i]? = some o := by simpa using ho
    simp only [hoA]
    split
    ·rename_i hw'; exact .inl (k1 hw')
    ·rename_i hw'; exact k2 (by simpa using hw')
 have e0 : ∀ j, j < ops.length → (Array.replicate ops.length false).getD j true = false := fun j hj => by simp [hj]
 have hsz0 : ops.toArray.size = ops.length := by simp
 rw [hsz0]
 refine main ops.length (Array.replicate ops.length false) a _ (by simp) (by simp) (hext _ _ _ _ (fun j hj => (e0 j (by omega)).symm) h0) (fun j o hj hl => ?_) (fun j _ h2 => e0 j h2)
 rw [e0 j (List.getElem?_eq_some_iff.1 hj).1] at hl; cases hl
end
/-! ### Allocations in any order -/
structure Sa where
 deps : List Nat
 r : Rp
 al : Option (List Rp × TypeId) := none
 late : Option (Nat × List Rp) := none
 sto : Option Nat := none
def sas (sp : List Sa) (i : Nat) : Sa := sp.getD i { deps := [], r := rv undef }
def spq (sp : List Sa) : List Sp := sp.map fun s => ⟨s.deps, s.r, 0⟩
def raOf (β : Nat → Nat) (s : Sa) (i : Nat) : Rp := match s.al with
 | none => s.r
 | some _ => rv (.pointer (some ⟨β i, 0, none⟩))
def cont (S : Nat → Bool) (late : Option (Nat × List Rp)) (cs : List Rp) : List Rp := match late with
 | none => cs
 | some q => if S q.1 then q.2 else cs
def entL (S : Nat → Bool) (β : Nat → Nat) : List Sa → Nat → List Ent
 | [], _ => []
 | s :: r, t => match s.al with
  | some p => if S t then .blk (β t) (cont S s.late p.1) p.2 :: entL S β r (t + 1) else entL S β r (t + 1)
  | none => entL S β r (t + 1)
def entA (β : Nat → Nat) : List Sa → Nat → List Ent
 | [], _ => []
 | s :: r, t => match s.al with
  | some p => .blk (β t) (match s.late with | none => p.1 | some q => q.2) p.2 :: entA β r (t + 1)
  | none => entA β r (t + 1)
def zipA (β : Nat → Nat) : List Oper → List Sa → Nat → Fr → Fr
 | o :: os, s :: sp, i, l => match o.dst with
  | some d => (d, raOf β s i) :: zipA β os sp (i + 1) l
  | none => zipA β os sp (i + 1) l
 | _, _, _, l => l
theorem cont_congr {S S' : Nat → Bool} {late : Option (Nat × List Rp)} {cs : List Rp} (h : ∀ q, late = some q → S q.1 = S' q.1) : cont S late cs = cont S' late cs := by
 unfold cont
 cases late with
 | none => rfl
 | some q => simp only []; rw [h q rfl]
theorem entL_cons (S : Nat → Bool) (β : Nat → Nat) (s : Sa) (r : List Sa) (t : Nat) : entL S β (s :: r) t = match s.al with
  | some p => if S t then .blk (β t) (cont S s.late p.1) p.2 :: entL S β r (t + 1) else entL S β r (t + 1)
  | none => entL S β r (t + 1) := rfl
theorem entL_congr {S S' : Nat → Bool} {β β' : Nat → Nat} : ∀ (r : List Sa) (t0 : Nat), (∀ (t : Nat) (s : Sa), r[t]? = some s → s.al ≠ none → S (t0 + t) = S' (t0 + t) ∧ (S (t0 + t) = true → β (t0 + t) = β' (t0 + t) ∧ ∀ q, s.late = some q → S q.1 = S' q.1)) → entL S β r t0 = entL S' β' r t0
 | [], _, _ => rfl
 | s :: r, t0, h => by
  have ih := entL_congr r (t0 + 1) (fun t s hs hn => by
   have := h (t + 1) s (by simpa using hs) hn
   rw [show t0 + 1 + t = t0 + (t + 1) from by omega]; exact this)
  unfold entL
  rw [ih]
  cases ha : s.al with
  | none => rfl
  | some p =>
   obtain ⟨h1, h2⟩ := h 0 s rfl (by rw [ha]; exact nofun)
   simp only [Nat.add_zero] at h1 h2
   simp only []
   rw [← h1]
   split
   ·rename_i hS; rw [(h2 hS).1, cont_congr (h2 hS).2]
   ·rfl
theorem entL_all (β : Nat → Nat) : ∀ (r : List Sa) (t0 : Nat), entL (fun _ => true) β r t0 = entA β r t0
 | [], _ => rfl
 | s :: r, t0 => by
  unfold entL entA
  rw [entL_all β r (t0 + 1)]
  cases s.al with
  | none => rfl
  | some p => cases hl : s.late <;> simp [cont, hl]
theorem entL_none (β : Nat → Nat) : ∀ (r : List Sa) (t0 : Nat), entL (fun _ => false) β r t0 = []
 | [], _ => rfl
 | s :: r, t0 => by
  unfold entL
  rw [entL_none β r (t0 + 1)]
  cases s.al <;> simp
theorem entL_put {S : Nat → Bool} {β : Nat → Nat} {i b : Nat} {p : List Rp × TypeId} : ∀ (r : List Sa) (t0 k : Nat) (s : Sa), i = t0 + k → r[k]? = some s → s.al = some p → S i = false → (∀ (t : Nat) (s : Sa) (q : Nat × List Rp), r[t]? = some s → s.al ≠ none → s.late = some q → q.1 ≠ i) → (∀ q, s.late = some q → S q.1 = false ∧ q.1 ≠ i) →
  (entL (fun j => j == i || S j) (fun j => if j = i then b else β j) r t0).Perm (.blk b p.1 p.2 :: entL S β r t0)
 | [], _, _, _, _, h, _, _, _, _ => by simp at h
 | s' :: r, t0, 0, s, hi, h, ha, hS, hne, hl => by
  simp at h hi; subst h; subst hi
  have e := entL_congr (S := fun j => j == i || S j) (S' := S) (β := fun j => if j = i then b else β j) (β' := β) r (i + 1) (fun t s hs hn => by
   have : i + 1 + t ≠ i := by omega
   refine ⟨by simp [this], fun _ => ⟨by simp [this], fun q hq => ?_⟩⟩
   have := hne (t + 1) s q (by simpa using hs) hn hq
   simp [this])
  have ec : cont (fun j => j == i || S j) s'.late p.1 = p.1 := by
   unfold cont
   cases hq : s'.late with
   | none => rfl
   | some q =>
    obtain ⟨h1, h2⟩ := hl q hq
    simp [h1, h2]
  unfold entL
  rw [e, ha]
  simp only [hS, BEq.rfl, Bool.true_or, if_true, ec]
  simp
 | s' :: r, t0, k + 1, s, hi, h, ha, hS, hne, hl => by
  have ih := entL_put (S := S) (β := β) (i := i) (b := b) (p := p) r (t0 + 1) k s (by omega) (by simpa using h) ha hS (fun t s q hs => hne (t + 1) s q (by simpa using hs)) hl
  have hne0 : t0 ≠ i := by omega
  have hne' : (t0 == i) = false := by simpa using hne0
  unfold entL
  cases ha' : s'.al with
  | none => exact ih
  | some q =>
   simp only [hne', Bool.false_or, if_neg hne0]
   rw [cont_congr (S := fun j => j == i || S j) (S' := S) (fun q hq => by
    have := hne 0 s' q rfl (by rw [ha']; exact nofun) hq
    simp [this])]
   cases hS' : S t0 with
   | true => simpa using (List.Perm.cons _ ih).trans (List.Perm.swap _ _ _)
   | false => simpa using ih
theorem entL_sto {S : Nat → Bool} {β : Nat → Nat} {i j : Nat} {p : List Rp × TypeId} {ncs : List Rp} : ∀ (r : List Sa) (t0 k : Nat) (s : Sa), j = t0 + k → r[k]? = some s → s.al = some p → s.late = some (i, ncs) → S j = true → S i = false → (∀ (t : Nat) (s : Sa) (q : Nat × List Rp), r[t]? = some s → s.al ≠ none → s.late = some q → t0 + t ≠ j → q.1 ≠ i) → (∀ (t : Nat) (s : Sa), r[t]? = some s → s.al ≠ none → t0 + t ≠ i) →
  ∃ H', (entL S β r t0).Perm (.blk (β j) p.1 p.2 :: H') ∧ (entL (fun j => j == i || S j) β r t0).Perm (.blk (β j) ncs p.2 :: H')
 | [], _, _, _, _, h, _, _, _, _, _, _ => by simp at h
 | s' :: r, t0, 0, s, hj, h, ha, hl, hSj, hSi, hne, hni => by
  simp at h hj; subst h; subst hj
  have e := entL_congr (S := fun x => x == i || S x) (S' := S) (β := β) (β' := β) r (j + 1) (fun t s hs hn => by
   have h1 := hni (t + 1) s (by simpa using hs) hn
   have h1' : j + 1 + t ≠ i := by omega
   refine ⟨by simp [h1'], fun _ => ⟨rfl, fun q hq => ?_⟩⟩
   have := hne (t + 1) s q (by simpa using hs) hn hq (by omega)
   simp [this])
  refine ⟨entL S β r (j + 1), ?_, ?_⟩
  ·rw [entL_cons]
   rw [ha]
   simp [hSj, cont, hl, hSi]
  ·rw [entL_cons]
   rw [ha, e]
   simp [hSj, cont, hl]
 | s' :: r, t0, k + 1, s, hj, h, ha, hl, hSj, hSi, hne, hni => by
  obtain ⟨H', h1, h2⟩ := entL_sto (S := S) (β := β) (i := i) (j := j) (p := p) (ncs := ncs) r (t0 + 1) k s (by omega) (by simpa using h) ha hl hSj hSi (fun t s q hs hn hq hx => hne (t + 1) s q (by simpa using hs) hn hq (by omega)) (fun t s hs hn => by
   have := hni (t + 1) s (by simpa using hs) hn; omega)
  cases ha' : s'.al with
  | none => exact ⟨H', by rw [entL_cons, ha']; exact h1, by rw [entL_cons, ha']; exact h2⟩
  | some q =>
   have hi0 := hni 0 s' rfl (by rw [ha']; exact nofun)
   have hi0' : (t0 == i) = false := by simpa using hi0
   have ec : cont (fun x => x == i || S x) s'.late q.1 = cont S s'.late q.1 := cont_congr (fun q hq => by
    have := hne 0 s' q rfl (by rw [ha']; exact nofun) hq (by omega)
    simp [this])
   cases hS' : S t0 with
   | true =>
    refine ⟨.blk (β t0) (cont S s'.late q.1) q.2 :: H', ?_, ?_⟩
    ·rw [entL_cons]
     rw [ha']; simpa [hS'] using (List.Perm.cons _ h1).trans (List.Perm.swap _ _ _)
    ·rw [entL_cons]
     rw [ha']
     simp only [hi0', Bool.false_or, hS', if_true, ec]
     exact (List.Perm.cons _ h2).trans (List.Perm.swap _ _ _)
   | false =>
    refine ⟨H', ?_, ?_⟩
    ·rw [entL_cons]
     rw [ha']; simpa [hS'] using h1
    ·rw [entL_cons]
     rw [ha']
     simp only [hi0', Bool.false_or, hS']
     simpa using h2
def okA (n : Nat) (ops : List Oper) (N : Nat) (keys : List Nat) (deps : List (List Nat)) (als : List Bool) (lates stos : List (Option Nat)) : Bool :=
 chainB ops N && decide (N ≤ ops.length) &&
 (List.range N).all (fun i => match dstOf ops i with
  | some d => decide (d < n) && !keys.contains d && (List.range N).all (fun j => j == i || dstOf ops j != some d)
  | none => true) &&
 (List.range N).all (fun i => (deps.getD i []).all (fun j => decide (j < N) && (bnds (ops.getD i default)).contains j && !als.getD j true)) &&
 (List.range N).all (fun i => match stos.getD i none with
  | some j => decide (j < N) && (bnds (ops.getD i default)).contains j && als.getD j false && !als.getD i true
  | none => true) &&
 (List.range N).all (fun j => match lates.getD j none with
  | some k => decide (k < N) && als.getD j false && stos.getD k none == some j
  | none => true)
def AlOk (P : Program) (n : Nat) (c : Cx) (opsA : Array Oper) (Q : Exit → Act → World → Prop) (o : Oper) (p : List Rp × TypeId) : Prop :=
 ∀ H a w Z (K : Act → World → Prop), St c H Z w → (∀ b w', St c (.blk b p.1 p.2 :: H) Z w' → K (a.put o.dst (.pointer (some ⟨b, 0, none⟩))) w') →
  Region.wanted o (yielded opsA a.tmps) = true ∧ o.wp P a w K Q
def ObA (P : Program) (n : Nat) (c : Cx) (opsA : Array Oper) (Q : Exit → Act → World → Prop) (ops : List Oper) (sp : List Sa) (l0 : Fr) (H : List Ent) (i : Nat) (o : Oper) : Prop :=
 match (sas sp i).sto with
 | some j => o.dst = none ∧ ∃ d p ncs, dstOf ops j = some d ∧ (sas sp j).al = some p ∧ (sas sp j).late = some (i, ncs) ∧
   ∀ b H, OpOk P n c opsA Q ((d, rv (.pointer (some ⟨b, 0, none⟩))) :: depFr ops (spq sp) (sas sp i).deps l0) (.blk b p.1 p.2 :: H) o (rv undef) (.blk b ncs p.2 :: H)
 | none => match (sas sp i).al with
  | none => ∀ E, OpOk P n c opsA Q (depFr ops (spq sp) (sas sp i).deps l0) (H ++ E) o (sas sp i).r (H ++ E)
  | some p => AlOk P n c opsA Q o p
def OblA (P : Program) (n : Nat) (c : Cx) (opsA : Array Oper) (Q : Exit → Act → World → Prop) (ops : List Oper) (sp : List Sa) (l0 : Fr) (H : List Ent) : Nat → List Oper → Prop
 | i, o :: rest => ObA P n c opsA Q ops sp l0 H i o ∧ OblA P n c opsA Q ops sp l0 H (i + 1) rest
 | _, [] => True
section
variable {P : Program} {n : Nat} {c : Cx} {opsA : Array Oper} {Q : Exit → Act → World → Prop} {l l0 : Fr} {H : List Ent} {sp : List Sa}
theorem OblA.at {ops : List Oper} : ∀ {k : Nat} {rest : List Oper}, OblA P n c opsA Q ops sp l0 H k rest → ∀ (t : Nat) o, rest[t]? = some o → ObA P n c opsA Q ops sp l0 H (k + t) o
 | k, o :: rest, ⟨h1, h2⟩, t, o', ht => by
  cases t with
  | zero => simp at ht; subst ht; exact h1
  | succ t =>
   have := OblA.at h2 t o' (by simpa using ht)
   rw [show k + (t + 1) = k + 1 + t from by omega]
   exact this
 | _, [], _, t, o, h => by simp at h
theorem agr_zip {β : Nat → Nat} {a : Act} {Z : Fz} (h0 : Agr n l0 a Z) : ∀ (os : List Oper) (ss : List Sa) (k : Nat), (∀ (t : Nat) o s d, os[t]? = some o → ss[t]? = some s → o.dst = some d → ∃ v, a.tmps[d]? = some v ∧ (raOf β s (k + t)).p Z v) → Agr n (zipA β os ss k l0) a Z
 | [], _, _, _ => by unfold zipA; exact h0
 | _ :: _, [], _, _ => by unfold zipA; exact h0
 | o :: os, s :: ss, k, h => by
  have ih := agr_zip h0 os ss (k + 1) (fun t o' s' d h1 h2 h3 => by
   have := h (t + 1) o' s' d (by simpa using h1) (by simpa using h2) h3
   rw [show k + 1 + t = k + (t + 1) from by omega]; exact this)
  unfold zipA
  cases hd : o.dst with
  | none => exact ih
  | some d =>
   refine ⟨ih.size, ih.defers, fun i r hi => ?_⟩
   rw [look_cons] at hi
   split at hi
   ·rename_i e; subst e; simp at hi; subst hi; exact h 0 o s d rfl rfl hd
   ·exact ih.tm i r hi
theorem wc_rda {id : Nat} {ops : List Oper} (N : Nat) (sp : List Sa) (hm : P.follows .mixedOrders = true) (hB : okA n ops N (keysOf l0) (sp.map (·.deps)) (sp.map (·.al.isSome)) (sp.map (·.late.map (·.1))) (sp.map (·.sto)) = true) (hl0 : SubL l0 l) (hsp : sp.length = N)
  (hob : OblA P n c ops.toArray Q ops sp l0 H 0 (ops.take N)) (h : ∀ β, WL P n c ops.toArray Q (ops.drop N) (zipA β (ops.take N) sp 0 l0) (H ++ entA β sp 0)) : WC P n c (.region id ops.toArray true) Q l H := by
 intro a w Z ha hw
 simp only [okA, Bool.and_eq_true, List.all_eq_true, List.mem_range, decide_eq_true_eq] at hB
 obtain ⟨⟨⟨⟨⟨b1, bN⟩, b2⟩, b3⟩, b4⟩, b5⟩ := hB
 have hget : ∀ i, i < N → (ops.take N)[i]? = ops[i]? := fun i hi => by rw [List.getElem?_take, if_pos hi]
 have hsa : ∀ i, i < N → sp[i]? = some (sas sp i) := fun i hi => by
  simp [sas, List.getD_eq_getElem?_getD, List.getElem?_eq_getElem (show i < sp.length by omega)]
 have hspq : ∀ i, i < N → (sps (spq sp) i) = ⟨(sas sp i).deps, (sas sp i).r, 0⟩ := fun i hi => by
  simp [sps, spq, List.getD_eq_getElem?_getD, List.getElem?_map, hsa i hi]
 have hals : ∀ j b, j < N → (sp.map (·.al.isSome)).getD j b = (sas sp j).al.isSome := fun j b hj => by simp [List.getD_eq_getElem?_getD, List.getElem?_map, hsa j hj]
 have hstos : ∀ j, j < N → (sp.map (·.sto)).getD j none = (sas sp j).sto := fun j hj => by simp [List.getD_eq_getElem?_getD, List.getElem?_map, hsa j hj]
 have hlates : ∀ j, j < N → (sp.map (·.late.map (·.1))).getD j none = (sas sp j).late.map (·.1) := fun j hj => by simp [List.getD_eq_getElem?_getD, List.getElem?_map, hsa j hj]
 have S1 : ∀ i o j, i < N → ops[i]? = some o → (sas sp i).sto = some j → j < N ∧ j ∈ bnds o ∧ (sas sp j).al ≠ none ∧ (sas sp i).al = none := fun i o j hi ho hs => by
  have h1 := b4 i hi
  rw [hstos i hi, hs] at h1
  simp only [Bool.and_eq_true, Bool.not_eq_true', decide_eq_true_eq] at h1
  obtain ⟨⟨⟨h2, h3⟩, h4⟩, h5⟩ := h1
  rw [hals j _ h2] at h4
  rw [hals i _ hi] at h5
  rw [List.getD_eq_getElem?_getD, ho, Option.getD_some, List.contains_iff_mem] at h3
  exact ⟨h2, h3, fun e => (by rw [e] at h4; cases h4), (by simpa using h5)⟩
 have L1 : ∀ t q, t < N → (sas sp t).late = some q → q.1 < N ∧ (sas sp q.1).sto = some t := fun t q ht hq => by
  have h1 := b5 t ht
  rw [hlates t ht, hq] at h1
  simp only [Option.map_some, Bool.and_eq_true, decide_eq_true_eq, beq_iff_eq] at h1
  obtain ⟨⟨h2, h3⟩, h4⟩ := h1
  rw [hstos _ h2] at h4
  exact ⟨h2, h4⟩
 have hops : ∀ j, j < N → ∃ o, ops[j]? = some o := fun j hj => ⟨ops[j]'(by omega), List.getElem?_eq_getElem (by omega)⟩
 have lt_of : ∀ (t : Nat) (s : Sa), sp[t]? = some s → t < N ∧ s = sas sp t := fun t s hs => by
  have h1 : t < N := by have := (List.getElem?_eq_some_iff.1 hs).1; omega
  refine ⟨h1, ?_⟩
  rw [hsa t h1] at hs; simpa using hs.symm
 have hdst : ∀ i o d, i < N → ops[i]? = some o → o.dst = some d → (d < n ∧ d ∉ keysOf l0) ∧ ∀ j, j < N → j ≠ i → dstOf ops j ≠ some d := fun i o d hi ho hd => by
  have h3 := b2 i hi
  have : dstOf ops i = some d := by simp [dstOf, ho, hd]
  rw [this] at h3
  simp only [Bool.and_eq_true, Bool.not_eq_true', List.all_eq_true, List.mem_range, decide_eq_true_eq] at h3
  refine ⟨⟨h3.1.1, fun hmem => by rw [← List.contains_iff_mem] at hmem; rw [hmem] at h3; cases h3.1.2⟩, fun j hj hne he => ?_⟩
  have := h3.2 j hj
  simp [hne, he] at this
 refine wp_inv (N := N) hm b1 bN (fun S a w => ∃ (β : Nat → Nat) (Z : Fz), St c (H ++ entL S β sp 0) Z w ∧ Agr n l0 a Z ∧ (∀ j o d, j < N → S j = true → ops[j]? = some o → o.dst = some d → ∃ v, a.tmps[d]? = some v ∧ (raOf β (sas sp j) j).p Z v) ∧
   ∀ k j, k < N → (sas sp k).sto = some j → S k = true → S j = true)
  (fun S S' a w hS hI => ?_) ⟨fun _ => 0, Z, ?_, ha.subL hl0, fun j o d _ hS => (by cases hS), fun k j _ _ hS => (by cases hS)⟩ (fun S i o a w hi hun ho hb hI K hK => ?_) (fun a w hI => ?_)
 ·obtain ⟨β, Z, h1, h2, h3, h4⟩ := hI
  refine ⟨β, Z, ?_, h2, fun j o d hj hS' => h3 j o d hj (by rw [hS j hj]; exact hS'), fun k j hk hs hSk => ?_⟩
  ·rw [← entL_congr (S := S) (β := β) (β' := β) sp 0 (fun t s hs _ => by
    obtain ⟨ht, rfl⟩ := lt_of t s hs
    exact ⟨hS _ (by omega), fun _ => ⟨rfl, fun q hq => hS _ (L1 t q ht hq).1⟩⟩)]
   exact h1
  ·obtain ⟨o, ho⟩ := hops k hk
   rw [← hS j (S1 k o j hk ho hs).1]
   exact h4 k j hk hs (by rw [hS k hk]; exact hSk)
 ·rw [entL_none, List.append_nil]; exact hw.drawn _
 ·obtain ⟨β, Z, h1, h2, h3, hx⟩ := hI
  have hput : ∀ k u v, a.tmps[k]? = some u → o.dst ≠ some k → (a.put o.dst v).tmps[k]? = some u := fun k u v hk hne => by
   cases hd : o.dst with
   | none => simpa [Act.put] using hk
   | some d =>
    simp only [Act.put, Array.getElem?_setIfInBounds]
    rw [if_neg (fun e => hne (by rw [hd, e]))]; exact hk
  have hagr : ∀ v Z', Fz.le Z Z' → Agr n l0 (a.put o.dst v) Z' := fun v Z' hz => by
   refine ⟨?_, ?_, fun k r hk => ?_⟩
   ·cases o.dst <;> simp [Act.put, h2.size]
   ·cases o.dst <;> simp [Act.put, h2.defers]
   ·obtain ⟨u, hu, hpu⟩ := h2.tm k r hk
    exact ⟨u, hput k u v hu (fun e => ((hdst i o k hi ho e).1).2 (look_mem hk)), r.mono hz hpu⟩
  have hvals : ∀ (v : Value) (Z' : Fz) (β' : Nat → Nat), Fz.le Z Z' → (∀ j, j ≠ i → β' j = β j) → (o.dst ≠ none → (raOf β' (sas sp i) i).p Z' v) → ∀ j o' d, j < N → (j == i || S j) = true → ops[j]? = some o' → o'.dst = some d → ∃ u, (a.put o.dst v).tmps[d]? = some u ∧ (raOf β' (sas sp j) j).p Z' u := by
   intro v Z' β' hz hβ hp j o' d hj hS' ho' hd
   by_cases hji : j = i
   ·subst hji
    rw [ho] at ho'; simp at ho'; subst ho'
    refine ⟨v, ?_, hp (by simp [hd])⟩
    have hdn : d < a.tmps.size := by rw [h2.size]; exact (hdst j o d hi ho hd).1.1
    simp [Act.put, hd, hdn]
   ·have hSj : S j = true := by simpa [hji] using hS'
    obtain ⟨u, hu, hpu⟩ := h3 j o' d hj hSj ho' hd
    refine ⟨u, hput d u v hu (fun e => (hdst i o d hi ho e).2 j hj hji (by simp [dstOf, ho', hd])), ?_⟩
    have : raOf β' (sas sp j) j = raOf β (sas sp j) j := by unfold raOf; rw [hβ j hji]
    rw [this]; exact (raOf β (sas sp j) j).mono hz hpu
  have hx' : ∀ k j, k < N → (sas sp k).sto = some j → (k == i || S k) = true → (j == i || S j) = true := fun k j hk hs hSk => by
   by_cases hki : k = i
   ·subst hki
    have := (hb j (S1 k o j hk ho hs).2.1).2
    simp [this]
   ·have : S j = true := hx k j hk hs (by simpa [hki] using hSk)
    simp [this]
  have hat := hob.at i o (by rw [hget i hi]; exact ho)
  rw [Nat.zero_add] at hat
  unfold ObA at hat
  have hag' : Agr n (depFr ops (spq sp) (sas sp i).deps l0) a Z := agr_dep h2 (fun j hj d hd => by
    have h4 := b3 i hi j (by simpa [List.getD_eq_getElem?_getD, List.getElem?_map, hsa i hi] using hj)
    simp only [Bool.and_eq_true, Bool.not_eq_true', decide_eq_true_eq] at h4
    obtain ⟨⟨h5, h6⟩, h7⟩ := h4
    rw [List.getD_eq_getElem?_getD, ho, Option.getD_some, List.contains_iff_mem] at h6
    have hjal : (sas sp j).al = none := by
     rw [hals j _ h5] at h7
     simpa using h7
    obtain ⟨o2, ho2⟩ := hops j h5
    obtain ⟨v, hv1, hv2⟩ := h3 j o2 d h5 (hb j h6).2 ho2 (by simpa [dstOf, ho2] using hd)
    refine ⟨v, hv1, ?_⟩
    rw [hspq j h5]
    simpa [raOf, hjal] using hv2)
  cases hst : (sas sp i).sto with
  | some j =>
   rw [hst] at hat
   obtain ⟨hod, d, p, ncs, hd, hal, hlate, hok⟩ := hat
   obtain ⟨hjN, hjb, _, hial⟩ := S1 i o j hi ho hst
   have hSj := (hb j hjb).2
   obtain ⟨H', p1, p2⟩ := entL_sto (S := S) (β := β) (i := i) (j := j) (p := p) (ncs := ncs) sp 0 j (sas sp j) (by omega) (hsa j hjN) hal hlate hSj hun (fun t s q hs _ hq hne he => by
     obtain ⟨ht, rfl⟩ := lt_of t s hs
     have := (L1 t q ht hq).2
     rw [he, hst] at this
     simp at this; omega) (fun t s hs hn he => by
     obtain ⟨ht, rfl⟩ := lt_of t s hs
     rw [Nat.zero_add] at he; subst he
     exact hn hial)
   obtain ⟨o2, ho2⟩ := hops j hjN
   obtain ⟨v, hv1, hv2⟩ := h3 j o2 d hjN hSj ho2 (by simpa [dstOf, ho2] using hd)
   have hag2 : Agr n ((d, rv (.pointer (some ⟨β j, 0, none⟩))) :: depFr ops (spq sp) (sas sp i).deps l0) a Z := ⟨hag'.size, hag'.defers, fun k r hk => by
    rw [look_cons] at hk
    split at hk
    ·rename_i e; subst e; simp at hk; subst hk
     exact ⟨v, hv1, by simpa [raOf, hal] using hv2⟩
    ·exact hag'.tm k r hk⟩
   refine hok (β j) (H ++ H') a w Z K hag2 (h1.perm ((List.Perm.append_left H p1).trans List.perm_middle)) (fun v w' Z' hz _ hs' => hK _ _ ⟨β, Z', ?_, hagr v Z' hz, hvals v Z' β hz (fun _ _ => rfl) (fun hne => absurd hod hne), hx'⟩)
   exact hs'.perm (List.perm_middle.symm.trans (List.Perm.append_left H p2.symm))
  | none =>
   rw [hst] at hat
   have latene : ∀ t q, t < N → (sas sp t).late = some q → q.1 ≠ i := fun t q ht hq he => by
    have := (L1 t q ht hq).2
    rw [he, hst] at this; cases this
   cases hal : (sas sp i).al with
   | none =>
    rw [hal] at hat
    refine hat _ a w Z K hag' h1 (fun v w' Z' hz hp hst' => hK _ _ ⟨β, Z', ?_, hagr v Z' hz, hvals v Z' β hz (fun _ _ => rfl) (fun _ => by unfold raOf; rw [hal]; exact hp), hx'⟩)
    rw [entL_congr (S' := S) (β' := β) sp 0 (fun t s hs hn => by
     obtain ⟨ht, rfl⟩ := lt_of t s hs
     have : t ≠ i := fun e => by subst e; exact hn hal
     refine ⟨by simp [this], fun _ => ⟨rfl, fun q hq => ?_⟩⟩
     have := latene t q ht hq
     simp [this])]
    exact hst'
   | some p =>
    rw [hal] at hat
    have key := fun K' hK' => hat (H ++ entL S β sp 0) a w Z K' h1 hK'
    have h5 : ∀ b w', St c (.blk b p.1 p.2 :: (H ++ entL S β sp 0)) Z w' → K (a.put o.dst (.pointer (some ⟨b, 0, none⟩))) w' := fun b w' hst' => by
     refine hK _ _ ⟨fun j => if j = i then b else β j, Z, ?_, hagr _ Z (Fz.le.refl _), hvals _ Z _ (Fz.le.refl _) (fun j hj => by simp [hj]) (fun _ => by simp [raOf, hal, rv]), hx'⟩
     have hp := entL_put (S := S) (β := β) (i := i) (b := b) (p := p) sp 0 i (sas sp i) (by omega) (hsa i hi) hal hun (fun t s q hs _ hq => by
      obtain ⟨ht, rfl⟩ := lt_of t s hs
      exact latene t q ht hq) (fun q hq => by
       refine ⟨?_, latene i q hi hq⟩
       cases hS : S q.1 with
       | false => rfl
       | true =>
        obtain ⟨h6, h7⟩ := L1 i q hi hq
        have := hx q.1 i h6 h7 hS
        rw [this] at hun; cases hun)
     exact hst'.perm ((List.perm_middle.symm).trans (List.Perm.append_left H hp.symm))
    refine ⟨fun _ => (key K h5).2, fun hw' => ?_⟩
    rw [(key K h5).1] at hw'; cases hw'
 ·obtain ⟨β, Z, h1, h2, h3, _⟩ := hI
  refine h β a w Z (agr_zip h2 _ _ 0 (fun t o s d ht hs hd => ?_)) (by rw [← entL_all]; exact h1)
  obtain ⟨htN, rfl⟩ := lt_of t s hs
  rw [Nat.zero_add]
  exact h3 t o d htN rfl (by rw [← hget t htN]; exact ht) hd
end
theorem al_ok {P : Program} {n : Nat} {c : Cx} {opsA : Array Oper} {Q : Exit → Act → World → Prop} {d : Nat} {e : TypeId} {ty : TypeId} {pos : String} {af : Array Edge} {z : Value} {cs : List Rp} (hz : ∀ w, (zeroValue e).run P w = .ok z w) (hcs : z.cells.toList.map rv = cs) :
  AlOk P n c opsA Q { dst := some d, op := .alloc e, type := ty, pos := pos, after := af, guard := none } (cs, e) := fun H a w Z K hw hK => by
 refine ⟨by simp [Region.wanted], ?_⟩
 unfold Oper.wp
 rw [show (execOp a.eval { dst := some d, op := .alloc e, type := ty, pos := pos, after := af, guard := none }).run P w = .ok (.value (.pointer (some ⟨w.heap.size, 0, none⟩))) (w.alloc (.cells z.cells e)) from by simp [execOp, Instr.alloc, hz, newVar, newRow, newObj, Sem.run, Sem.run_bind]]
 exact hK _ _ (hw.alloc _ (e := .blk w.heap.size cs e) ⟨z.cells.toList, by simpa using heap_alloc_new w _, by subst hcs; exact RpAll.rvs Z _⟩ rfl)
section
variable {P : Program} {n : Nat} {c : Cx} {opsA : Array Oper} {Q : Exit → Act → World → Prop} {l l0 : Fr} {H : List Ent} {sp : List Sa}
theorem wc_rdak {id : Nat} {ops : List Oper} (N : Nat) (ks0 : List Nat) (sp : List Sa) (hob : OblA P n c ops.toArray Q ops sp l0 H 0 (ops.take N)) (h : ∀ β, WL P n c ops.toArray Q (ops.drop N) (zipA β (ops.take N) sp 0 l0) (H ++ entA β sp 0))
  (h0 : Kp ks0 l l0 := by repeat (first | exact kp_n | (apply kp_y; rfl) | (apply kp_d; rfl))) (hm : P.follows .mixedOrders = true := by kernel_rfl) (hB : okA n ops N (keysOf l0) (sp.map (·.deps)) (sp.map (·.al.isSome)) (sp.map (·.late.map (·.1))) (sp.map (·.sto)) = true := by kernel_rfl)
  (hsp : sp.length = N := by rfl) : WC P n c (.region id ops.toArray true) Q l H := wc_rda N sp hm hB h0.one hsp hob h
theorem oaq {all rest : List Oper} {d : Nat} {op : Op} {ty : TypeId} {pos : String} {af : Array Edge} {i : Nat}
  (hr : ∀ {H}, ORun P n c (depFr all (spq sp) (sas sp i).deps l0) H { dst := some d, op := op, type := ty, pos := pos, after := af, guard := none } (sas sp i).r) (h : OblA P n c opsA Q all sp l0 H (i + 1) rest) (ha : (sas sp i).al = none := by rfl) (hs : (sas sp i).sto = none := by rfl) :
  OblA P n c opsA Q all sp l0 H i ({ dst := some d, op := op, type := ty, pos := pos, after := af, guard := none } :: rest) := by
 refine ⟨?_, h⟩
 unfold ObA; rw [hs, ha]; exact fun _ => ok_v hr
theorem oaf {all rest : List Oper} {d : Nat} {op : Op} {ty : TypeId} {pos : String} {af : Array Edge} {i : Nat}
  (hr : ∀ {E}, ORun P n c (depFr all (spq sp) (sas sp i).deps l0) (H ++ E) { dst := some d, op := op, type := ty, pos := pos, after := af, guard := none } (sas sp i).r) (h : OblA P n c opsA Q all sp l0 H (i + 1) rest) (ha : (sas sp i).al = none := by rfl) (hs : (sas sp i).sto = none := by rfl) :
  OblA P n c opsA Q all sp l0 H i ({ dst := some d, op := op, type := ty, pos := pos, after := af, guard := none } :: rest) := by
 refine ⟨?_, h⟩
 unfold ObA; rw [hs, ha]; exact fun _ => ok_v hr
theorem oal {all rest : List Oper} {o : Oper} {p : List Rp × TypeId} {i : Nat} (hr : AlOk P n c opsA Q o p) (h : OblA P n c opsA Q all sp l0 H (i + 1) rest) (ha : (sas sp i).al = some p := by rfl) (hs : (sas sp i).sto = none := by rfl) : OblA P n c opsA Q all sp l0 H i (o :: rest) := by
 refine ⟨?_, h⟩
 unfold ObA; rw [hs, ha]; exact hr
theorem oae {all : List Oper} {i : Nat} : OblA P n c opsA Q all sp l0 H i [] := trivial
end
structure Kza (ks : List Nat) (β : Nat → Nat) (os : List Oper) (sp : List Sa) (i : Nat) (l0 l1 : Fr) : Prop where
 go : Kp ks (zipA β os sp i l0) l1
section
variable {ks : List Nat} {β : Nat → Nat} {os : List Oper} {sp : List Sa} {i d : Nat} {l0 l1 : Fr} {ds : List Nat} {r : Rp} {p : List Rp × TypeId} {lt : Option (Nat × List Rp)} {so : Option Nat} {op : Op} {ty : TypeId} {pos : String} {af : Array Edge} {g : Option (Nat × Bool)}
theorem kza_y (h : ks.contains d = true) (t : Kza ks β os sp (i + 1) l0 l1) : Kza ks β ({ dst := some d, op := op, type := ty, pos := pos, after := af, guard := g } :: os) ({ deps := ds, r := r, sto := so } :: sp) i l0 ((d, r) :: l1) := ⟨kp_y h t.go⟩
theorem kza_a (h : ks.contains d = true) (t : Kza ks β os sp (i + 1) l0 l1) : Kza ks β ({ dst := some d, op := op, type := ty, pos := pos, after := af, guard := g } :: os) ({ deps := ds, r := r, al := some p, late := lt, sto := so } :: sp) i l0 ((d, rv (.pointer (some ⟨β i, 0, none⟩))) :: l1) := ⟨kp_y h t.go⟩
theorem kza_d {s : Sa} (h : ks.contains d = false) (t : Kza ks β os sp (i + 1) l0 l1) : Kza ks β ({ dst := some d, op := op, type := ty, pos := pos, after := af, guard := g } :: os) (s :: sp) i l0 l1 := ⟨kp_d h t.go⟩
theorem kza_u {s : Sa} (t : Kza ks β os sp (i + 1) l0 l1) : Kza ks β ({ dst := none, op := op, type := ty, pos := pos, after := af, guard := g } :: os) (s :: sp) i l0 l1 := ⟨t.go⟩
theorem kza_0 (t : Kp ks l0 l1) : Kza ks β [] [] i l0 l1 := ⟨t⟩
theorem wl_kza {P : Program} {n : Nat} {c : Cx} {opsA : Array Oper} {Q : Exit → Act → World → Prop} {rest : List Oper} {H H1 : List Ent} (ks : List Nat) (h : WL P n c opsA Q rest l1 H1)
  (hz : Kza ks β os sp i l0 l1 := by repeat (first | (apply kza_y; rfl) | (apply kza_a; rfl) | (apply kza_d; rfl) | apply kza_u | apply kza_0 | exact kp_n | (apply kp_y; rfl) | (apply kp_d; rfl))) (hH : H = H1 := by rfl) :
  WL P n c opsA Q rest (zipA β os sp i l0) H := fun a w Z ha hw => h a w Z (ha.subL hz.go.one) (hH ▸ hw)
end
section
variable {P : Program} {n : Nat} {c : Cx} {opsA : Array Oper} {Q : Exit → Act → World → Prop} {l l0 : Fr} {H : List Ent} {sp : List Sa}
theorem oac {all rest : List Oper} {o : Oper} {i : Nat} (hr : ∀ {E}, OpOk P n c opsA Q (depFr all (spq sp) (sas sp i).deps l0) (H ++ E) o (sas sp i).r (H ++ E)) (h : OblA P n c opsA Q all sp l0 H (i + 1) rest) (ha : (sas sp i).al = none := by rfl) (hs : (sas sp i).sto = none := by rfl) : OblA P n c opsA Q all sp l0 H i (o :: rest) := by
 refine ⟨?_, h⟩
 unfold ObA; rw [hs, ha]; exact fun _ => hr
end
end Go.Proofs.YtpmiamphppcfeaaGreatDoor.Q

/-
 Calls that turn entries, in regions that draw; more slices of frozen slices. Plain theorems over any program; no condition.
-/
namespace Go.Proofs.YtpmiamphppcfeaaGreatDoor.Q
open Go Go.RowKit
set_option linter.unusedVariables false
set_option linter.unusedSimpArgs false
section
variable {P : Program} {n : Nat} {c : Cx} {opsA : Array Oper} {Q : Exit → Act → World → Prop} {l : Fr} {H : List Ent} {d : Nat} {ty : TypeId} {pos : String} {af : Array Edge}
end
section
variable {P : Program} {n : Nat} {c : Cx} {ops : Array Oper} {Q : Exit → Act → World → Prop} {rest : List Oper} {l : Fr} {H H' : List Ent} {d : Nat} {d' : Option Nat} {x y z3 : Operand} {ty t t' e : TypeId} {pos : String} {af : Array Edge} {g : Option (Nat × Bool)} {v u : Value} {r : Rp} {sz : Nat}
end
end Go.Proofs.YtpmiamphppcfeaaGreatDoor.Q

/-
 More rules: tests of slices for nil. Plain theorems over any program; no condition.
-/
namespace Go.Proofs.YtpmiamphppcfeaaGreatDoor.Q
open Go Go.RowKit
set_option linter.unusedVariables false
set_option linter.unusedSimpArgs false
def rBx (p : Bool → Prop) : Rp := ⟨fun _ v => ∃ b, v = .bool b ∧ p b, fun _ h => h, true, fun _ Z v ⟨b, e, _⟩ => by rw [e]; rfl⟩
section
variable {P : Program} {n : Nat} {c : Cx} {ops : Array Oper} {Q : Exit → Act → World → Prop} {rest : List Oper} {l : Fr} {H : List Ent} {d : Option Nat} {ty rty t e : TypeId} {pos : String} {af : Array Edge} {g : Option (Nat × Bool)} {r : Rp} {x : Operand} {cx cy : Code} {sz : Nat} {xs : List (List Rp)}
theorem wc_condx {o : Operand} {p : Bool → Prop} (ho : ev l o = some (rBx p)) (h1 : p true → WC P n c cx Q l H) (h2 : p false → WC P n c cy Q l H) : WC P n c (.cond o cx cy) Q l H := fun a w Z ha hw => by
 obtain ⟨b, e, hp⟩ := ha.ev ho
 exact wp_cond_split e (fun e => h1 (e ▸ hp) a w Z ha hw) (fun e => h2 (e ▸ hp) a w Z ha hw)
theorem o_slnil_z (ht : P.underlying t = some (.slice e)) (h : ev l x = some (rSl sz xs)) : ORun P n c l H { dst := d, op := .binOp .eql t x (.const (.slice none 0 0)) rty, type := ty, pos := pos, after := af, guard := g } (rBx (fun b => b = true → xs = [])) := fun a w Z ha hw => by
 obtain ⟨A, cap, e1, h1, h2, h3, h4⟩ := ha.ev h
 refine ⟨.bool A.isNone, ⟨_, rfl, fun hb => ?_⟩, ?_⟩
 ·cases A with
  | some a => cases hb
  | none =>
   have := h3 rfl
   exact List.length_eq_zero_iff.1 (by omega)
 ·have := run_equal_slice_nil (P := P) w t e A xs.length cap ht
  have e2 : a.eval (.const (.slice none 0 0)) = .slice none 0 0 := rfl
  simp [execOp, e1, e2, binOp, this, eqGuard]
end
end Go.Proofs.YtpmiamphppcfeaaGreatDoor.Q

/-
 Scopes with jumps to one label; rows made with make; rows copied over. Plain theorems over any program; no condition.
-/
namespace Go.Proofs.YtpmiamphppcfeaaGreatDoor.Q
open Go Go.RowKit
set_option linter.unusedVariables false
set_option linter.unusedSimpArgs false
section
variable {P : Program} {n : Nat} {c : Cx} {Q : Exit → Act → World → Prop} {l : Fr} {H : List Ent} {x rest' : Code} {K : Act → World → Prop}
theorem wc_goto {lb : Nat} (h : WK n c (Q (.goto lb)) l H) : WC P n c (.goto lb) Q l H := fun a w Z ha hw => wp_goto (h a w Z ha hw)
theorem wk_then_goto {lb : Nat} (h : WK n c (Q (.goto lb)) l H) : WK n c (Exit.then K Q (.goto lb)) l H := h
theorem wk_in_goto {id lb : Nat} (h : WK n c (Q (.goto lb)) l H) : WK n c (Exit.inBlock id Q (.goto lb)) l H := h
theorem wk_cut_goto {id lb : Nat} (h : WK n c (Q (.goto lb)) l H) : WK n c (cutX id K Q (.goto lb)) l H := h
theorem wk_ju_r {lb : Nat} (h : WK n c (Q .ret) l H) : WK n c (Exit.jump lb K Q .ret) l H := h
theorem wk_ju_g {lb : Nat} (h : WK n c K l H) : WK n c (Exit.jump lb K Q (.goto lb)) l H := fun a w Z ha hw => ⟨rfl, h a w Z ha hw⟩
theorem wc_scope_jump {S : Type} (lb : Nat) (inv : S → Prop) (fr : S → Fr) (hp : S → List Ent) (hf : findLabel x lb = some rest')
  (h1 : WC P n c x (Exit.jump lb (Some1 n c inv fr hp) Q) l H) (h2 : ∀ s, inv s → WC P n c rest' (Exit.noGoto Q) (fr s) (hp s)) : WC P n c (.scope x) Q l H := fun a w Z ha hw =>
 wp_scope_jumps lb (Some1 n c inv fr hp) (fun _ _ => 0) hf (h1 a w Z ha hw) (by
  rintro a w ⟨s, Z, hi, ha, hw⟩
  refine wp_mono (h2 s hi a w Z ha hw) fun e a w q => ?_
  cases e with
  | goto _ => exact q.elim
  | _ => exact q)
end
section
variable {P : Program} {n : Nat} {c : Cx} {ops : Array Oper} {Q : Exit → Act → World → Prop} {rest : List Oper} {l : Fr} {H H' : List Ent} {d : Nat} {d' : Option Nat} {x y z3 z4 : Operand} {ty t t' e : TypeId} {pos : String} {af : Array Edge} {g : Option (Nat × Bool)} {v u : Value} {r : Rp} {sz : Nat}
theorem o_slice_zm0 {α : Type} {ys : List α} {enc : α → List Rp} {k' k'' : IntKind} {j : Int} (ht : P.underlying t = some (.slice e)) (hz : ∀ w, (sizeOf e).run P w = .ok sz w) (h : ev l x = some (rSl sz (ys.map enc))) (hj : ev l z3 = some (rI k' j)) (hm : ev l z4 = some (rI k'' j)) (hg2 : inC j (ys.length : Int) = true) :
  ORun P n c l H { dst := d', op := .slice t x none (some z3) (some z4), type := ty, pos := pos, after := af, guard := g } (rSl sz ((ys.take j.toNat).map enc)) := fun a w Z ha hw => by
 obtain ⟨A, cap, e1, hc1, hc2, hA, hc⟩ := ha.ev h
 have h0 := (inC_iff hg2).1
 have h2 := (inC_iff hg2).2
 simp only [List.length_map] at e1 hc1
 have h3 : j ≤ (cap : Int) := by omega
 refine ⟨.slice A j.toNat j.toNat, ⟨A, j.toNat, ?_, ?_, by omega, ?_, fun q cl hq => ?_⟩, ?_⟩
 ·congr 1
  simp; omega
 ·simp; omega
 ·intro hn; have := hA hn; omega
 ·rw [List.getElem?_map, List.getElem?_take] at hq
  split at hq
  ·exact hc q cl (by rw [List.getElem?_map]; exact hq)
  ·cases hq
 ·have hA' : A.map (fun b => b.add 0) = A := by
   cases A with
   | none => rfl
   | some ad => obtain ⟨b, o, sp⟩ := ad; cases sp <;> rfl
  simp [execOp, e1, ha.eval hj, ha.eval hm, Instr.sliceAt, Instr.slice, run_underlying ht, Instr.sliceBounds, run_sliceBound (m := cap) _ _ h0 h3, run_sliceBound (m := j.toNat) _ _ h0 (by omega), hz]
  try (intro _; cases A <;> rfl)
theorem o_field {i : Nat} {rs : List Rp} {fs : Array Field} {f : Field} (hu : P.underlying t = some (.struct fs)) (hf : fs[i]? = some f) (hag : ∀ w, (isAgg f.type).run P w = .ok false w) (hx : ev l x = some (rAgg rs)) (hr : rs[f.offset]? = some r) :
  ORun P n c l H { dst := d', op := .field t x i, type := ty, pos := pos, after := af, guard := g } r := fun a w Z ha hw => by
 obtain ⟨us, e1, hus⟩ := ha.ev hx
 obtain ⟨v, hv, hp⟩ := hus.at hr
 exact ⟨v, hp, by simp [execOp, e1, Instr.field, run_underlying hu, hf, asAgg, part, hag, hv]⟩
theorem w_make {α : Type} {enc : α → List Rp} {inf : TypeInfo} {z : Value} {zα : α} {rz : Rp} {kl kc : IntKind} {m : Nat} {bytes : Nat} (ht : P.underlying t = some (.slice e)) (hinf : P.info? e = some inf) (hz : inf.zero = some z) (hsize : inf.size = 1) (hby : inf.bytes = bytes) (hbp : Nat.blt 0 bytes = true)
  (hzc : z.cells = #[z]) (henc : enc zα = [rz]) (hrz : ∀ Z, rz.p Z z)
  (hx : ev l x = some (rI kl m)) (hy : ev l y = some (rI kc m)) (hg : inA bytes m = true) (hn : Nat.blt d n = true)
  (h : ∀ v', WL P n c ops Q rest ((d, rv v') :: l) (.row v' e 1 ((List.replicate m zα).map enc) :: H)) :
  WL P n c ops Q ({ dst := some d, op := .makeSlice t x y, type := ty, pos := pos, after := af, guard := none } :: rest) l H :=
 wl_w (fun a w Z ha hw => by
  have hb : m * bytes ≤ 140737488355328 := by simpa [inA] using hg
  have hbp' : 0 < bytes := by simpa using hbp
  have hle : m ≤ m * bytes := Nat.le_mul_of_pos_right _ hbp'
  obtain ⟨w', e1, e2, e3⟩ := run_make_full (P := P) w 0 t e inf z 1 ht hinf hz hsize kl kc m (by rw [hby, Nat.mul_comm]; omega) (by simp only [maxLen]; omega) (Nat.zero_le _)
  rw [hzc, toList_madeCells_one, Nat.mul_one] at e2
  have hall : RpAll Z ((List.replicate m zα).map enc).flatten (List.replicate m z) := by
   clear e2 hle hb hg hx hy h e1
   induction m with
   | zero => trivial
   | succ m ih => rw [List.replicate_succ, List.replicate_succ, List.map_cons, List.flatten_cons, henc]; exact ⟨hrz Z, ih⟩
  have hlen : ∀ cl ∈ (List.replicate m zα).map enc, cl.length = 1 := fun cl hcl => by
   obtain ⟨q, hq, rfl⟩ := List.mem_map.1 hcl; rw [(List.mem_replicate.1 hq).2, henc]; rfl
  have hent : (Ent.row (.slice (some ⟨w.heap.size, 0, none⟩) m m) e 1 ((List.replicate m zα).map enc)).holds Z w' := ⟨hlen, List.replicate m z, by simpa using e2, hall⟩
  exact ⟨.slice (some ⟨w.heap.size, 0, none⟩) m m, w', rv (.slice (some ⟨w.heap.size, 0, none⟩) m m), _, Z, by simp [execOp, ha.eval hx, ha.eval hy, e1], Fz.le.refl _, rfl, hw.add e3.os e3.tape e3.output e3.size (fun k hk => e3.block k hk (by simp)) hent (by simp [Ent.foot, Value.ownBlock]), h _⟩) hn
theorem w_copy {α : Type} {xs ys : List α} {enc : α → List Rp} {i : Nat} (ht : P.underlying t = some (.slice e)) (hs : (P.info? e).map (·.size) = some 1)
  (hx : ev l x = some (rv v)) (hi : H[i]? = some (.row v e 1 (xs.map enc))) (hy : Src P n c l H y 1 ys.length (ys.map enc).flatten) (henc : ∀ z, (enc z).length = 1) (hone : ∀ z, (enc z).all (·.one) = true) (hn : Nat.blt d n = true)
  (h : WL P n c ops Q rest ((d, rI .i64 (Nat.min ys.length xs.length : Nat)) :: l) (H.set i (.row v e 1 ((cpy xs ys).map enc)))) :
  WL P n c ops Q ({ dst := some d, op := .call { callee := .builtin .copy, args := #[x, y], argTypes := #[t, t'] }, type := ty, pos := pos, after := af, guard := none } :: rest) l H :=
 wl_w (fun a w Z ha hw => by
  obtain ⟨h0, us, ⟨h1, h2⟩, h3⟩ := hw.ent hi
  obtain ⟨ws, h4, h5, h6⟩ := hy a w Z ha hw
  rw [Nat.mul_one] at h5
  have hws : ∀ y ∈ ws, y.oneCell' = true := RpAll.one (rs := (ys.map enc).flatten) (by
   rw [List.all_eq_true]
   intro r hr
   obtain ⟨cl, hcl, hrc⟩ := List.mem_flatten.1 hr
   obtain ⟨z', _, rfl⟩ := List.mem_map.1 hcl
   exact List.all_eq_true.1 (hone z') r hrc) h4
  have ftake : ∀ (zs : List α) (k : Nat), ((zs.take k).map enc).flatten = ((zs.map enc).flatten).take k := by
   intro zs
   induction zs with
   | nil => intro k; simp
   | cons z zs ih =>
    intro k
    cases k with
    | zero => simp
    | succ k =>
     have hz1 := henc z
     simp only [List.take_succ_cons, List.map_cons, List.flatten_cons, ih k]
     rw [show k + 1 = (enc z).length + k by omega, List.take_length_add_append]
  have fdrop : ∀ (zs : List α) (k : Nat), ((zs.drop k).map enc).flatten = ((zs.map enc).flatten).drop k := by
   intro zs
   induction zs with
   | nil => intro k; simp
   | cons z zs ih =>
    intro k
    cases k with
    | zero => simp
    | succ k =>
     have hz1 := henc z
     simp only [List.drop_succ_cons, List.map_cons, List.flatten_cons, ih k]
     rw [show k + 1 = (enc z).length + k by omega, List.drop_length_add_append]
  have fcpy : ((cpy xs ys).map enc).flatten = ((ys.map enc).flatten).take xs.length ++ ((xs.map enc).flatten).drop ys.length := by
   unfold cpy; rw [List.map_append, List.flatten_append, ftake, fdrop]
  have hcl : (cpy xs ys).length = xs.length := by unfold cpy; simp; omega
  have h1' : us.length = xs.length := by simpa using h1
  rcases h2 with ⟨rfl, hz⟩ | ⟨b, cap, cur, rfl, hb0, hg', hcap, hm, hcs, htk⟩
  ·have hxs : xs = [] := by simpa using hz
   subst hxs
   have hrun : (Builtin.copy_ #[t, t'] ty #[.slice none 0 0, a.eval y]).run P w = .ok (goInt 0) w := by
    rcases h6 with ⟨hv, _⟩ | ⟨ad, cp, hv, _⟩
    ·rw [hv]; exact run_copy_none w t t' ty e none none 0 0 0 0 ht hs (by simp)
    ·rw [hv]; exact run_copy_none w t t' ty e none (some ad) 0 0 ys.length cp ht hs (by simp)
   have hent : (Ent.row (.slice none 0 0) e 1 ((cpy [] ys).map enc)).holds Z w := ⟨by simp [cpy], [], ⟨by simp [cpy], .inl ⟨rfl, by simp [cpy]⟩⟩, by simp [cpy]; trivial⟩
   exact ⟨goInt 0, w, rI .i64 (Nat.min ys.length ([] : List α).length : Nat), _, Z, by simp [execOp, resolve, invoke, builtin, ha.eval hx, hrun], Fz.le.refl _, (by simp [goInt]; rfl), hw.set hi rfl rfl rfl (Nat.le_refl _) (fun _ _ _ => rfl) hent (by simp [Ent.foot, Value.ownBlock]), h⟩
  ·simp only [List.length_map] at hcap htk
   rw [Nat.mul_one] at htk hcs
   have hxc : xs.length ≤ cur.size := by omega
   have hset : ∀ vs : List Value, vs.length = xs.length → RpAll Z ((cpy xs ys).map enc).flatten vs → ∀ cur' : Array Value, cur'.size = cur.size → cur'.toList.take xs.length = vs →
     St c (H.set i (.row (.slice (some ⟨b, 0, none⟩) xs.length cap) e 1 ((cpy xs ys).map enc))) Z (w.setRow b cur') := fun vs hvl hvs cur' hc1 hc2 => by
    refine hw.set hi rfl rfl rfl (by simp) (fun k _ hk => ?_) ⟨fun cl hcl' => ?_, vs, ⟨?_, .inr ⟨b, cap, cur', ?_, Nat.zero_le _, setRow_heap w b cur _ e _ hg', ?_, hm, ?_, ?_⟩⟩, hvs⟩ (by simp [Ent.foot, Value.ownBlock])
    ·exact setRow_other w b k _ (fun e1 => hk (by simp [Ent.foot, Value.ownBlock, e1]))
    ·obtain ⟨z', _, rfl⟩ := List.mem_map.1 hcl'; exact henc z'
    ·simp [hcl, hvl]
    ·simp [hcl]
    ·simp [hcl]; exact hcap
    ·rw [hc1, Nat.mul_one]; exact hcs
    ·simp only [List.length_map, hcl, Nat.mul_one]; exact hc2
   have hall : RpAll Z ((cpy xs ys).map enc).flatten (ws.take xs.length ++ us.drop ys.length) := by
    rw [fcpy]; exact (h4.take _).append (h3.drop _)
   have hlen2 : (ws.take xs.length ++ us.drop ys.length).length = xs.length := by simp; omega
   rcases h6 with ⟨hv, h70⟩ | ⟨ad, cp, hv, h7⟩
   ·have hys : ys = [] := List.eq_nil_of_length_eq_zero h70
    subst hys
    have hws0 : ws = [] := List.eq_nil_of_length_eq_zero (by simpa using h5)
    subst hws0
    have hrun : (Builtin.copy_ #[t, t'] ty #[.slice (some ⟨b, 0, none⟩) xs.length cap, a.eval y]).run P w = .ok (goInt 0) w := by
     rw [hv]; exact run_copy_none w t t' ty e _ none _ _ 0 0 ht hs (by simp)
    have hself := hset us h1' (by simpa using hall) cur rfl (by simpa using htk)
    rw [setRow_self w b cur e (0, 0) hg'] at hself
    refine ⟨goInt 0, w, rI .i64 (Nat.min ([] : List α).length xs.length : Nat), _, Z, ?_, Fz.le.refl _, ?_, hself, ?_⟩
    ·simp [execOp, resolve, invoke, builtin, ha.eval hx, hrun]
    ·simp [goInt]; rfl
    ·simpa using h
   ·have hrun := run_copy_row (P := P) w t t' ty e b 0 xs.length cap ad ys.length cp cur e (ws.take xs.length) ht hs hg' (by simp [h5, Nat.min_comm]) (fun j u hj => h7 j u (by
      rw [List.getElem?_take] at hj; split at hj
      ·exact hj
      ·cases hj)) (by simp; omega) (fun u hu => hws u (List.mem_of_mem_take hu))
    rw [← hv] at hrun
    have hst := hset (ws.take xs.length ++ us.drop ys.length) hlen2 hall (cur.toList.take 0 ++ ws.take xs.length ++ cur.toList.drop (0 + (ws.take xs.length).length)).toArray (by simp; omega) (by
     have e1 : us.drop ys.length = (cur.toList.drop ys.length).take (xs.length - ys.length) := by rw [← htk, List.drop_take]
     rw [e1]
     simp only [List.take_zero, List.nil_append, Nat.zero_add, List.toList_toArray, List.length_take, h5, Nat.mul_one]
     rw [List.take_append]
     have e2 : (ws.take xs.length).take xs.length = ws.take xs.length := by rw [List.take_take, Nat.min_self]
     rw [e2, List.length_take, h5]
     by_cases hc : xs.length ≤ ys.length
     ·rw [Nat.min_eq_left hc, Nat.sub_self, Nat.sub_eq_zero_of_le hc]; simp
     ·rw [Nat.min_eq_right (by omega)])
    refine ⟨goInt (ws.take xs.length).length, _, rI .i64 (Nat.min ys.length xs.length : Nat), _, Z, ?_, Fz.le.refl _, ?_, hst, ?_⟩
    ·simp [execOp, resolve, invoke, builtin, ha.eval hx, hrun]
    ·simp [goInt, h5, Nat.min_comm]; rfl
    ·simpa using h) hn
end
end Go.Proofs.YtpmiamphppcfeaaGreatDoor.Q
