/-
  Texts of the proof, put together: WVd, PVe, WVe, PVf, WVf, PVg, QU, QT.
-/
import Derived.Test.YtkalifgebccpcaaGreatDoorMF3
import Derived.Laws.StructEq
import Derived.Laws.Cover3
/-
  Walks, printed by a small program of ours (gq.py).
-/
namespace Go.Proofs.YtkalifgebccpcaaGreatDoor.Q
open Go Go.RowKit
set_option linter.unusedVariables false
set_option linter.unusedSimpArgs false
set_option maxRecDepth 100000
set_option maxHeartbeats 4000000
theorem built57 (parts : List (Nat × Value)) : Tryz.prog.built 57 parts = Instr.fill (fun i => (#[(0, 1), (1, 1), (2, 1), (3, 1)] : Array (Nat × Nat))[i]?) #[(.string ⟨#[]⟩), (.int .i64 0), ((.slice none 0 0)), (.bool false)] parts := by kernel_rfl
theorem o_build57_0 {n : Nat} {c : Cx} {l : Fr} {H : List Ent} {d : Option Nat} {ty : TypeId} {pos : String} {af : Array Edge} {g : Option (Nat × Bool)} {x0 : Operand} {r0 : Rp} (h0 : ev l x0 = some r0) (u0 : r0.one = true) : ORun Tryz.prog n c l H { dst := d, op := .build 57 #[(0, x0)], type := ty, pos := pos, after := af, guard := g } (rAgg [r0, rI .i64 0, rv (.slice none 0 0), rB false]) := fun a w Z ha _ => by
  have p0 := ha.ev h0
  have c0 := cells_one (r0.hone u0 Z _ p0)
  have hb : Tryz.prog.built 57 [(0, a.eval x0)] = some #[a.eval x0, (.int .i64 0), ((.slice none 0 0)), (.bool false)] := by
    rw [built57]
    generalize a.eval x0 = v0 at *
    simp [Instr.fill, c0]
  refine ⟨.agg #[a.eval x0, (.int .i64 0), ((.slice none 0 0)), (.bool false)], ⟨[a.eval x0, (.int .i64 0), ((.slice none 0 0)), (.bool false)], rfl, p0, rfl, rfl, rfl, trivial⟩, ?_⟩
  have := run_build w 57 #[(0, a.eval x0)] _ (by simpa using hb)
  simp [execOp, this]
theorem slHasPrefix_w (s : Str) (p : Str) (r : Bool) (h : slHasPrefix s p = some r) : Fn Tryz.prog GE 103 [rS s, rS p] [] (fun R H => R = rB r ∧ H = []) := by
 refine enter (n := 18) Tryz.func103 rfl Tryz.ntmps103 rfl (fun w Z => ?_)
 refine wc_as (l' := [(0, rS s), (1, rS p)]) (H' := []) rfl rfl ?_
 unfold slHasPrefix at h
 refine wc_sr ?_
 refine wv (r := rB false) (o_assign rfl) ?_
 refine wl_x ?_
 obtain ⟨g1, h2⟩ := chk_e h
 refine wc_seq_mid [(4, rB ((decide ((p.length : Int) ≤ (s.length : Int))) && (decide ((List.take (Int.toNat (p.length : Int)) s) = p))))] [] ?_ ?_
 ·refine wc_region ?_
  refine wm rfl ?_
  refine wv (o_len_s Tryz.underlying9 rfl) ?_
  refine wm rfl ?_
  refine wv (o_len_s Tryz.underlying9 rfl) ?_
  refine wv (o_ge rfl rfl) ?_
  refine wm rfl ?_
  refine bsplit (decide ((p.length : Int) ≤ (s.length : Int))) (fun c3 => ?_) (fun c3 => ?_)
  ·refine wo c3 ?_
   refine wm rfl ?_
   refine wo c3 ?_
   refine wm rfl ?_
   refine wo c3 ?_
   refine wv (o_len_s Tryz.underlying9 rfl) ?_
   refine wo c3 ?_
   refine wv (o_slice_hi Tryz.underlying9 rfl rfl (imp_t g1 c3)) ?_
   refine wo c3 ?_
   refine wm rfl ?_
   refine wo c3 ?_
   refine wv (o_seq rfl rfl) ?_
   refine wpt rfl c3 rfl ?_
   refine wa rfl ?_
   refine wl_nil ?_
   exact wtc c3
  ·refine wf c3 ?_
   refine wf c3 ?_
   refine wf c3 ?_
   refine wf c3 ?_
   refine wf c3 ?_
   refine wf c3 ?_
   refine wv (r := rB false) (o_pick_f (b := decide ((p.length : Int) ≤ (s.length : Int))) rfl c3 rfl) ?_
   refine wa rfl ?_
   refine wl_nil ?_
   exact wtc c3
 refine wc_ret ?_
 obtain rfl := some_e h2
 exact wk_ret (r_1 Tryz.results103 (rv_t rfl)) sN ⟨rfl, rfl⟩

theorem hasPrefix_w (s : Str) (p : Str) (r : Bool) (h : hasPrefix s p = some r) : Fn Tryz.prog GE 94 [rS s, rS p] [] (fun R H => R = rB r ∧ H = []) := by
 refine enter (n := 8) Tryz.func94 rfl Tryz.ntmps94 rfl (fun w Z => ?_)
 refine wc_as (l' := [(0, rS s), (1, rS p)]) (H' := []) rfl rfl ?_
 unfold hasPrefix at h
 refine wc_sr ?_
 refine wv (r := rB false) (o_assign rfl) ?_
 refine wl_y ?_
 refine wm rfl ?_
 refine wm rfl ?_
 obtain ⟨r1, e3, h2⟩ := obn_e h
 refine wc0 Tryz.call103 (slHasPrefix_w s p r1 e3) rfl ?_
 refine wa rfl ?_
 refine wl_x ?_
 refine wc_ret ?_
 obtain rfl := some_e h2
 exact wk_ret (r_1 Tryz.results94 (rv_t rfl)) sN ⟨rfl, rfl⟩

theorem vTake_w (b_q : Nat) (v_q_2 : Value) (q : TValueReader) (s : Str) (r : Bool × TValueReader) (h : vTake q s = some r) : Fn Tryz.prog GE 64 [rv (.pointer (some ⟨b_q, 0, none⟩)), rS s] [.blk b_q [rS q.fS, rI .i64 q.fAt, rv v_q_2, rB q.fGreat] 57, .row v_q_2 63 4 (List.map eTApiCell q.fCells)] (fun R H => ∃ w0_2 : Value, R = rB r.1 ∧ H = [.blk b_q [rS r.2.fS, rI .i64 r.2.fAt, rv w0_2, rB r.2.fGreat] 57, .row w0_2 63 4 (List.map eTApiCell r.2.fCells)]) := by
 refine enter (n := 26) Tryz.func64 rfl Tryz.ntmps64 rfl (fun w Z => ?_)
 refine wc_as (l' := [(0, rv (.pointer (some ⟨b_q, 0, none⟩))), (1, rS s)]) (H' := [.blk b_q [rS q.fS, rI .i64 q.fAt, rv v_q_2, rB q.fGreat] 57, .row v_q_2 63 4 (List.map eTApiCell q.fCells)]) rfl rfl ?_
 unfold vTake at h
 refine wc_sr ?_
 refine wv (r := rB false) (o_assign rfl) ?_
 refine wl_x ?_
 refine wc_seq ?_
 refine wc_seq ?_
 obtain ⟨g1, h2⟩ := chk_e h
 obtain ⟨r3, e5, h4⟩ := obn_e h2
 refine wc_rdq [0, 1] [⟨[], rv (.pointer (some ⟨b_q, 0, none⟩)), 0⟩, ⟨[0], rv (.pointer (some ⟨b_q, 0, none⟩)), 0⟩, ⟨[1], rv (.pointer (some ⟨b_q, 0, none⟩)), 0⟩, ⟨[2], rS q.fS, 1⟩, ⟨[], rv (.pointer (some ⟨b_q, 0, none⟩)), 0⟩, ⟨[4], rv (.pointer (some ⟨b_q, 0, none⟩)), 0⟩, ⟨[5], rv (.pointer (some ⟨b_q, 1, none⟩)), 0⟩, ⟨[6], rI .i64 q.fAt, 1⟩, ⟨[3, 7], rS (List.drop (Int.toNat q.fAt) q.fS), 0⟩, ⟨[], rS s, 0⟩, ⟨[8, 9], rB r3, 0⟩, ⟨[10], rB (!r3), 0⟩] [16, 0, 1] ?_ ?_
 ·refine oq (o_move rfl) ?_
  refine oq (o_nilcheck rfl) ?_
  refine oq (o_fieldAddr Tryz.underlying57 rfl Tryz.sizeOf9 rfl rfl) ?_
  refine of (o_load (i := 0) Tryz.isAgg9 rfl rfl rfl) ?_
  refine oq (o_move rfl) ?_
  refine oq (o_nilcheck rfl) ?_
  refine oq (o_fieldAddr Tryz.underlying57 rfl Tryz.sizeOf3 rfl rfl) ?_
  refine of (o_load (i := 0) Tryz.isAgg3 rfl rfl rfl) ?_
  refine oq (o_slice_lo Tryz.underlying9 rfl rfl g1) ?_
  refine oq (o_move rfl) ?_
  refine obl_q rfl (fun H => ok_c0 Tryz.call94 (hasPrefix_w (List.drop (Int.toNat q.fAt) q.fS) s r3 e5) rfl) ?_
  refine oq (o_not rfl) ?_
  exact obl_e
 refine wk_x ?_
 refine wc_cond (b := !r3) rfl (fun c6 => ?_) (fun c6 => ?_)
 ·have h7 := cnd_t c6 h4
  refine wc_sr ?_
  refine wv (r := rB false) (o_assign rfl) ?_
  refine wl_x ?_
  refine wc_ret ?_
  refine wk_then_ret ?_
  obtain rfl := some_e h7
  exact wk_ret (r_1 Tryz.results64 (rv_t rfl)) (sC (sC sN)) ⟨v_q_2, rfl, rfl⟩
 ·have h8 := cnd_f c6 h4
  refine wc_skip ?_
  refine wk_x ?_
  refine wc_sr ?_
  refine wm rfl ?_
  refine wv (o_nilcheck rfl) ?_
  refine wv (o_fieldAddr Tryz.underlying57 rfl Tryz.sizeOf3 rfl rfl) ?_
  refine wv (o_load (i := 0) Tryz.isAgg3 rfl rfl rfl) ?_
  refine wm rfl ?_
  refine wv (o_len_s Tryz.underlying9 rfl) ?_
  obtain ⟨g9, h10⟩ := chk_e h8
  refine wv (o_add rfl rfl g9) ?_
  refine wv (o_nilcheck rfl) ?_
  refine wv (o_fieldAddr Tryz.underlying57 rfl Tryz.sizeOf3 rfl rfl) ?_
  refine u_store (i := 0) Tryz.sizeOf3 rfl rfl (one_c rfl) rfl rfl (cs' := [rS q.fS, rI .i64 (q.fAt + (s.length : Int)), rv v_q_2, rB q.fGreat]) rfl (H' := [.blk b_q [rS q.fS, rI .i64 (q.fAt + (s.length : Int)), rv v_q_2, rB q.fGreat] 57, .row v_q_2 63 4 (List.map eTApiCell q.fCells)]) rfl ?_
  refine wl_y ?_
  refine wv (r := rB true) (o_assign rfl) ?_
  refine wl_x ?_
  refine wc_ret ?_
  obtain rfl := some_e h10
  exact wk_ret (r_1 Tryz.results64 (rv_t rfl)) (sC (sC sN)) ⟨v_q_2, rfl, rfl⟩

theorem vRStr_w (F : Nat) (b_q : Nat) (v_q_2 : Value) (q : TValueReader) (r : Str × Bool × TValueReader) (h : vRStr F q = some r) : Fn Tryz.prog GE 66 [rv (.pointer (some ⟨b_q, 0, none⟩))] [.blk b_q [rS q.fS, rI .i64 q.fAt, rv v_q_2, rB q.fGreat] 57, .row v_q_2 63 4 (List.map eTApiCell q.fCells)] (fun R H => ∃ w0_2 : Value, R = rTup [rS r.1, rB r.2.1] ∧ H = [.blk b_q [rS r.2.2.fS, rI .i64 r.2.2.fAt, rv w0_2, rB r.2.2.fGreat] 57, .row w0_2 63 4 (List.map eTApiCell r.2.2.fCells)]) := by
 refine enter (n := 104) Tryz.func66 rfl Tryz.ntmps66 rfl (fun w Z => ?_)
 refine wc_as (l' := [(0, rv (.pointer (some ⟨b_q, 0, none⟩)))]) (H' := [.blk b_q [rS q.fS, rI .i64 q.fAt, rv v_q_2, rB q.fGreat] 57, .row v_q_2 63 4 (List.map eTApiCell q.fCells)]) rfl rfl ?_
 unfold vRStr at h
 refine wc_sr ?_
 refine wv (r := rS ([] : Str)) (o_assign rfl) ?_
 refine wv (r := rB false) (o_assign rfl) ?_
 refine wl_x ?_
 refine wc_seq ?_
 refine wc_sr ?_
 refine wm rfl ?_
 obtain ⟨r1, e3, h2⟩ := obn_e h
 refine wcl (Hr := []) Tryz.call64 (vTake_w b_q v_q_2 q ([34] : Str) r1 e3) rfl (List.Perm.refl _) rfl ?_
 rintro _ _ ⟨v4, rfl, rfl⟩
 refine wv (o_not rfl) ?_
 refine wl_x ?_
 refine wc_cond (b := !r1.1) rfl (fun c5 => ?_) (fun c5 => ?_)
 ·have h6 := cnd_t c5 h2
  refine wc_sr ?_
  refine wv (r := rS ([] : Str)) (o_assign rfl) ?_
  refine wv (r := rB false) (o_assign rfl) ?_
  refine wl_x ?_
  refine wc_ret ?_
  refine wk_then_ret ?_
  obtain rfl := some_e h6
  exact wk_ret (r_2 Tryz.results66 (rv_t rfl) (rv_t rfl)) (sC (sC sN)) ⟨v4, rfl, rfl⟩
 ·have h7 := cnd_f c5 h2
  refine wc_skip ?_
  refine wk_x ?_
  refine wc_sr ?_
  refine wv (r := rv (.slice none 0 0)) (o_assign rfl) ?_
  refine wl_x ?_
  refine wc_seq ?_
  refine wc_block ?_
  refine WC.nilrow (e := 5) (sz := 1) ?_
  refine wc_perm (H2 := [.blk b_q [rS r1.2.fS, rI .i64 r1.2.fAt, rv v4, rB r1.2.fGreat] 57, .row v4 63 4 (List.map eTApiCell r1.2.fCells), .row (.slice none 0 0     ) 5 1 (List.map eI_u8 ([] : List Int))]) ((perm_front (i := 1) rfl).trans (List.Perm.cons _ ((perm_front (i := 1) rfl).trans (List.Perm.cons _ (List.Perm.refl _))))) ?_
  obtain ⟨o426, eo427, hK428⟩ := obn_e h7
  refine wc_loop2 (S := Nat × ((List Int) × Int) × (Value)) (V := (Int) × (Unit)) 0 (fun σ => lop (fun σ => vRStr_b1 r1 σ.1 σ.2) σ.1 σ.2.1 = some o426) (fun σ => [(0, rv (.pointer (some ⟨b_q, 0, none⟩))), (4, rv σ.2.2)]) (fun σ => [.blk b_q [rS r1.2.fS, rI .i64 σ.2.1.2, rv v4, rB r1.2.fGreat] 57, .row v4 63 4 (List.map eTApiCell r1.2.fCells), .row σ.2.2 5 1 (List.map eI_u8 σ.2.1.1)]) (fun σ => σ.1) (F, (([] : List Int), r1.2.fAt), (.slice none 0 0     )) eo427 (Sub.c rfl (Sub.c rfl Sub.nil)) (sC (sC (sC sN))) (fun σ => vRStr_k1 r1 σ.1 = some r) (fun σ => []) (fun σ => [.blk b_q [rS r1.2.fS, rI .i64 σ.1, rv v4, rB r1.2.fGreat] 57, .row v4 63 4 (List.map eTApiCell r1.2.fCells)]) ?_ ?_
  ·rintro ⟨n434, ⟨x366, x368⟩, v367⟩ hi432
   refine wc_as (l' := [(0, rv (.pointer (some ⟨b_q, 0, none⟩))), (4, rv v367)]) (H' := [.blk b_q [rS r1.2.fS, rI .i64 x368, rv v4, rB r1.2.fGreat] 57, .row v4 63 4 (List.map eTApiCell r1.2.fCells), .row v367 5 1 (List.map eI_u8 x366)]) rfl rfl ?_
   obtain ⟨m431, rfl, t429, h433, ht430⟩ := lop_e hi432
   replace h433 : vRStr_b1 r1 x366 x368 = some t429 := h433
   unfold vRStr_b1 at h433
   refine wc_seq ?_
   refine wc_seq ?_
   refine wc_rdq [0, 4] [⟨[], rv (.pointer (some ⟨b_q, 0, none⟩)), 0⟩, ⟨[0], rv (.pointer (some ⟨b_q, 0, none⟩)), 0⟩, ⟨[1], rv (.pointer (some ⟨b_q, 1, none⟩)), 0⟩, ⟨[2], rI .i64 x368, 1⟩, ⟨[], rv (.pointer (some ⟨b_q, 0, none⟩)), 0⟩, ⟨[4], rv (.pointer (some ⟨b_q, 0, none⟩)), 0⟩, ⟨[5], rv (.pointer (some ⟨b_q, 0, none⟩)), 0⟩, ⟨[6], rS r1.2.fS, 1⟩, ⟨[7], rI .i64 (r1.2.fS.length : Int), 0⟩, ⟨[3, 8], rB (decide (x368 < (r1.2.fS.length : Int))), 0⟩] [9, 10, 11, 12, 13, 14, 15, 16, 17, 18, 0, 4] ?_ ?_
   ·refine oq (o_move rfl) ?_
    refine oq (o_nilcheck rfl) ?_
    refine oq (o_fieldAddr Tryz.underlying57 rfl Tryz.sizeOf3 rfl rfl) ?_
    refine of (o_load (i := 0) Tryz.isAgg3 rfl rfl rfl) ?_
    refine oq (o_move rfl) ?_
    refine oq (o_nilcheck rfl) ?_
    refine oq (o_fieldAddr Tryz.underlying57 rfl Tryz.sizeOf9 rfl rfl) ?_
    refine of (o_load (i := 0) Tryz.isAgg9 rfl rfl rfl) ?_
    refine oq (o_len_s Tryz.underlying9 rfl) ?_
    refine oq (o_lt rfl rfl) ?_
    exact obl_e
   refine wk_x ?_
   refine wc_cond (b := decide (x368 < (r1.2.fS.length : Int))) rfl (fun c435 => ?_) (fun c435 => ?_)
   ·have h436 := cnd_t c435 h433
    refine wc_skip ?_
    refine wk_x ?_
    refine wc_block ?_
    refine wc_seq ?_
    obtain ⟨g437, h438⟩ := chk_e h436
    refine wc_rdq [0, 4, 9, 10, 11, 12, 13, 14, 15, 16, 17] [⟨[], rv (.pointer (some ⟨b_q, 0, none⟩)), 0⟩, ⟨[0], rv (.pointer (some ⟨b_q, 0, none⟩)), 0⟩, ⟨[1], rv (.pointer (some ⟨b_q, 0, none⟩)), 0⟩, ⟨[2], rS r1.2.fS, 1⟩, ⟨[], rv (.pointer (some ⟨b_q, 0, none⟩)), 0⟩, ⟨[4], rv (.pointer (some ⟨b_q, 0, none⟩)), 0⟩, ⟨[5], rv (.pointer (some ⟨b_q, 1, none⟩)), 0⟩, ⟨[6], rI .i64 x368, 1⟩, ⟨[3, 7], rI .u8 (bat r1.2.fS x368), 0⟩, ⟨[8], rI .u8 (bat r1.2.fS x368), 0⟩] [19, 20, 21, 22, 23, 24, 25, 26, 27, 5, 0, 4, 9, 10, 11, 12, 13, 14, 15, 16, 17] ?_ ?_
    ·refine oq (o_move rfl) ?_
     refine oq (o_nilcheck rfl) ?_
     refine oq (o_fieldAddr Tryz.underlying57 rfl Tryz.sizeOf9 rfl rfl) ?_
     refine of (o_load (i := 0) Tryz.isAgg9 rfl rfl rfl) ?_
     refine oq (o_move rfl) ?_
     refine oq (o_nilcheck rfl) ?_
     refine oq (o_fieldAddr Tryz.underlying57 rfl Tryz.sizeOf3 rfl rfl) ?_
     refine of (o_load (i := 0) Tryz.isAgg3 rfl rfl rfl) ?_
     refine oq (o_index_b Tryz.underlying9 rfl rfl g437) ?_
     refine oq (o_assign rfl) ?_
     exact obl_e
    refine wk_x ?_
    refine wc_sr ?_
    refine wm rfl ?_
    refine wv (o_nilcheck rfl) ?_
    refine wv (o_fieldAddr Tryz.underlying57 rfl Tryz.sizeOf3 rfl rfl) ?_
    refine wv (o_load (i := 0) Tryz.isAgg3 rfl rfl rfl) ?_
    obtain ⟨g439, h440⟩ := chk_e h438
    refine wv (o_add rfl rfl g439) ?_
    refine wv (o_nilcheck rfl) ?_
    refine wv (o_fieldAddr Tryz.underlying57 rfl Tryz.sizeOf3 rfl rfl) ?_
    refine u_store (i := 0) Tryz.sizeOf3 rfl rfl (one_c rfl) rfl rfl (cs' := [rS r1.2.fS, rI .i64 (x368 + 1), rv v4, rB r1.2.fGreat]) rfl (H' := [.blk b_q [rS r1.2.fS, rI .i64 (x368 + 1), rv v4, rB r1.2.fGreat] 57, .row v4 63 4 (List.map eTApiCell r1.2.fCells), .row v367 5 1 (List.map eI_u8 x366)]) rfl ?_
    refine wl_x ?_
    refine wc_seq_cut (S := (Int × Int) × (Unit)) (fun σ => vRStr_j2 x366 σ.1.1 σ.1.2 = some t429) (fun σ => [(0, rv (.pointer (some ⟨b_q, 0, none⟩))), (4, rv v367), (5, rI .u8 σ.1.1), (9, rv (.pointer (some ⟨b_q, 0, none⟩))), (10, rv (.pointer (some ⟨b_q, 0, none⟩))), (11, rv (.pointer (some ⟨b_q, 1, none⟩))), (12, rI .i64 x368), (13, rv (.pointer (some ⟨b_q, 0, none⟩))), (14, rv (.pointer (some ⟨b_q, 0, none⟩))), (15, rv (.pointer (some ⟨b_q, 0, none⟩))), (16, rS r1.2.fS), (17, rI .i64 (r1.2.fS.length : Int)), (19, rv (.pointer (some ⟨b_q, 0, none⟩))), (20, rv (.pointer (some ⟨b_q, 0, none⟩))), (21, rv (.pointer (some ⟨b_q, 0, none⟩))), (22, rS r1.2.fS), (23, rv (.pointer (some ⟨b_q, 0, none⟩))), (24, rv (.pointer (some ⟨b_q, 0, none⟩))), (25, rv (.pointer (some ⟨b_q, 1, none⟩))), (26, rI .i64 x368), (27, rI .u8 (bat r1.2.fS x368))]) (fun σ => [.blk b_q [rS r1.2.fS, rI .i64 σ.1.2, rv v4, rB r1.2.fGreat] 57, .row v4 63 4 (List.map eTApiCell r1.2.fCells), .row v367 5 1 (List.map eI_u8 x366)]) ?_ ?_
    ·refine wc_block ?_
     refine wc_sr ?_
     refine wm rfl ?_
     refine wv (o_eq rfl rfl) ?_
     refine wa rfl ?_
     refine wl_x ?_
     refine wc_cond (b := decide ((bat r1.2.fS x368) = 34)) rfl (fun c464 => ?_) (fun c464 => ?_)
     ·have h465 := cnd_t c464 h440
      refine wc_sr ?_
      refine wm rfl ?_
      refine wv (r := rS (ofI x366)) (o_b2s (xs := x366) (i := 2) Tryz.underlying72 Tryz.underlying9 Tryz.underlying5 rfl rfl) ?_
      refine wa rfl ?_
      refine wv (r := rB true) (o_assign rfl) ?_
      refine wl_x ?_
      refine wc_ret ?_
      refine wk_in_ret ?_
      refine wk_then_ret ?_
      refine wk_in_ret ?_
      refine wk_then_ret ?_
      refine wk_cut_ret ?_
      have h466 := stp_ret h465 ht430 hK428
      refine wk_in_ret ?_
      refine wk_then_ret ?_
      obtain rfl := some_e h466
      exact wk_ret (r_2 Tryz.results66 (rv_t rfl) (rv_t rfl)) (sC (sC (sS sN))) ⟨v4, rfl, rfl⟩
     ·have h467 := cnd_f c464 h440
      refine wc_seq_mid [(0, rv (.pointer (some ⟨b_q, 0, none⟩))), (4, rv v367), (5, rI .u8 (bat r1.2.fS x368)), (9, rv (.pointer (some ⟨b_q, 0, none⟩))), (10, rv (.pointer (some ⟨b_q, 0, none⟩))), (11, rv (.pointer (some ⟨b_q, 1, none⟩))), (12, rI .i64 x368), (13, rv (.pointer (some ⟨b_q, 0, none⟩))), (14, rv (.pointer (some ⟨b_q, 0, none⟩))), (15, rv (.pointer (some ⟨b_q, 0, none⟩))), (16, rS r1.2.fS), (17, rI .i64 (r1.2.fS.length : Int)), (19, rv (.pointer (some ⟨b_q, 0, none⟩))), (20, rv (.pointer (some ⟨b_q, 0, none⟩))), (21, rv (.pointer (some ⟨b_q, 0, none⟩))), (22, rS r1.2.fS), (23, rv (.pointer (some ⟨b_q, 0, none⟩))), (24, rv (.pointer (some ⟨b_q, 0, none⟩))), (25, rv (.pointer (some ⟨b_q, 1, none⟩))), (26, rI .i64 x368), (27, rI .u8 (bat r1.2.fS x368)), (40, rB ((decide ((bat r1.2.fS x368) < 32)) || (decide (126 < (bat r1.2.fS x368)))))] [.blk b_q [rS r1.2.fS, rI .i64 (x368 + 1), rv v4, rB r1.2.fGreat] 57, .row v4 63 4 (List.map eTApiCell r1.2.fCells), .row v367 5 1 (List.map eI_u8 x366)] ?_ ?_
      ·refine wc_region ?_
       refine wm rfl ?_
       refine wv (o_lt rfl rfl) ?_
       refine wm rfl ?_
       refine bsplit (decide ((bat r1.2.fS x368) < 32)) (fun c468 => ?_) (fun c468 => ?_)
       ·refine wf c468 ?_
        refine wf c468 ?_
        refine wv (r := rB true) (o_pick_t (b := decide ((bat r1.2.fS x368) < 32)) rfl c468 rfl) ?_
        refine wa rfl ?_
        refine wl_nil ?_
        exact wtc c468
       ·refine wo c468 ?_
        refine wm rfl ?_
        refine wo c468 ?_
        refine wv (o_gt rfl rfl) ?_
        refine wpf rfl c468 rfl ?_
        refine wa rfl ?_
        refine wl_nil ?_
        exact wtc c468
      refine wc_cond (b := ((decide ((bat r1.2.fS x368) < 32)) || (decide (126 < (bat r1.2.fS x368))))) rfl (fun c469 => ?_) (fun c469 => ?_)
      ·have h470 := cnd_t c469 h467
       refine wc_sr ?_
       refine wv (r := rS ([] : Str)) (o_assign rfl) ?_
       refine wv (r := rB false) (o_assign rfl) ?_
       refine wl_x ?_
       refine wc_ret ?_
       refine wk_in_ret ?_
       refine wk_then_ret ?_
       refine wk_in_ret ?_
       refine wk_then_ret ?_
       refine wk_cut_ret ?_
       have h471 := stp_ret h470 ht430 hK428
       refine wk_in_ret ?_
       refine wk_then_ret ?_
       obtain rfl := some_e h471
       exact wk_ret (r_2 Tryz.results66 (rv_t rfl) (rv_t rfl)) (sC (sC (sS sN))) ⟨v4, rfl, rfl⟩
      ·have h472 := cnd_f c469 h467
       refine wc_sr ?_
       refine wm rfl ?_
       refine wv (o_eq rfl rfl) ?_
       refine wa rfl ?_
       refine wl_x ?_
       refine wc_cond (b := decide ((bat r1.2.fS x368) = 92)) rfl (fun c473 => ?_) (fun c473 => ?_)
       ·have h474 := cnd_t c473 h472
        refine wc_seq ?_
        obtain ⟨g475, h476⟩ := chk_e h474
        refine wc_seq_mid [(0, rv (.pointer (some ⟨b_q, 0, none⟩))), (4, rv v367), (9, rv (.pointer (some ⟨b_q, 0, none⟩))), (10, rv (.pointer (some ⟨b_q, 0, none⟩))), (11, rv (.pointer (some ⟨b_q, 1, none⟩))), (12, rI .i64 x368), (13, rv (.pointer (some ⟨b_q, 0, none⟩))), (14, rv (.pointer (some ⟨b_q, 0, none⟩))), (15, rv (.pointer (some ⟨b_q, 0, none⟩))), (16, rS r1.2.fS), (17, rI .i64 (r1.2.fS.length : Int)), (19, rv (.pointer (some ⟨b_q, 0, none⟩))), (20, rv (.pointer (some ⟨b_q, 0, none⟩))), (21, rv (.pointer (some ⟨b_q, 0, none⟩))), (22, rS r1.2.fS), (23, rv (.pointer (some ⟨b_q, 0, none⟩))), (24, rv (.pointer (some ⟨b_q, 0, none⟩))), (25, rv (.pointer (some ⟨b_q, 1, none⟩))), (26, rI .i64 x368), (27, rI .u8 (bat r1.2.fS x368)), (50, rv (.pointer (some ⟨b_q, 0, none⟩))), (51, rv (.pointer (some ⟨b_q, 0, none⟩))), (52, rv (.pointer (some ⟨b_q, 1, none⟩))), (53, rI .i64 (x368 + 1)), (54, rv (.pointer (some ⟨b_q, 0, none⟩))), (55, rv (.pointer (some ⟨b_q, 0, none⟩))), (56, rv (.pointer (some ⟨b_q, 0, none⟩))), (57, rS r1.2.fS), (58, rI .i64 (r1.2.fS.length : Int)), (59, rB (decide ((r1.2.fS.length : Int) ≤ (x368 + 1)))), (60, rB (decide ((r1.2.fS.length : Int) ≤ (x368 + 1)))), (83, rB ((decide ((r1.2.fS.length : Int) ≤ (x368 + 1))) || ((!decide ((bat r1.2.fS (x368 + 1)) = 34)) && (!decide ((bat r1.2.fS (x368 + 1)) = 92)))))] [.blk b_q [rS r1.2.fS, rI .i64 (x368 + 1), rv v4, rB r1.2.fGreat] 57, .row v4 63 4 (List.map eTApiCell r1.2.fCells), .row v367 5 1 (List.map eI_u8 x366)] ?_ ?_
        ·refine bsplit (decide ((r1.2.fS.length : Int) ≤ (x368 + 1))) (fun c477 => ?_) (fun c477 => ?_)
         ·refine wc_rdq [0, 4, 9, 10, 11, 12, 13, 14, 15, 16, 17, 19, 20, 21, 22, 23, 24, 25, 26, 27] [⟨[], rv (.pointer (some ⟨b_q, 0, none⟩)), 0⟩, ⟨[0], rv (.pointer (some ⟨b_q, 0, none⟩)), 0⟩, ⟨[1], rv (.pointer (some ⟨b_q, 1, none⟩)), 0⟩, ⟨[2], rI .i64 (x368 + 1), 1⟩, ⟨[], rv (.pointer (some ⟨b_q, 0, none⟩)), 0⟩, ⟨[4], rv (.pointer (some ⟨b_q, 0, none⟩)), 0⟩, ⟨[5], rv (.pointer (some ⟨b_q, 0, none⟩)), 0⟩, ⟨[6], rS r1.2.fS, 1⟩, ⟨[7], rI .i64 (r1.2.fS.length : Int), 0⟩, ⟨[3, 8], rB (decide ((r1.2.fS.length : Int) ≤ (x368 + 1))), 0⟩, ⟨[9], rB (decide ((r1.2.fS.length : Int) ≤ (x368 + 1))), 0⟩, ⟨[10], rv undef, 0⟩, ⟨[11, 10], rv undef, 0⟩, ⟨[12, 10], rv undef, 0⟩, ⟨[13, 10], rv undef, 0⟩, ⟨[10], rv undef, 0⟩, ⟨[15, 10], rv undef, 0⟩, ⟨[16, 10], rv undef, 0⟩, ⟨[17, 10], rv undef, 0⟩, ⟨[14, 18, 10], rv undef, 0⟩, ⟨[19, 10], rv undef, 0⟩, ⟨[20, 10], rv undef, 0⟩, ⟨[21], rv undef, 0⟩, ⟨[22, 21], rv undef, 0⟩, ⟨[23, 21], rv undef, 0⟩, ⟨[24, 21], rv undef, 0⟩, ⟨[21], rv undef, 0⟩, ⟨[26, 21], rv undef, 0⟩, ⟨[27, 21], rv undef, 0⟩, ⟨[28, 21], rv undef, 0⟩, ⟨[25, 29, 21], rv undef, 0⟩, ⟨[30, 21], rv undef, 0⟩, ⟨[21, 31, 10], rv undef, 0⟩, ⟨[10, 32], rB true, 0⟩] [50, 51, 52, 53, 54, 55, 56, 57, 58, 59, 60, 61, 62, 63, 64, 65, 66, 67, 68, 69, 70, 71, 72, 73, 74, 75, 76, 77, 78, 79, 80, 81, 82, 83, 0, 4, 9, 10, 11, 12, 13, 14, 15, 16, 17, 19, 20, 21, 22, 23, 24, 25, 26, 27] ?_ ?_
          ·refine oq (o_move rfl) ?_
           refine oq (o_nilcheck rfl) ?_
           refine oq (o_fieldAddr Tryz.underlying57 rfl Tryz.sizeOf3 rfl rfl) ?_
           refine of (o_load (i := 0) Tryz.isAgg3 rfl rfl rfl) ?_
           refine oq (o_move rfl) ?_
           refine oq (o_nilcheck rfl) ?_
           refine oq (o_fieldAddr Tryz.underlying57 rfl Tryz.sizeOf9 rfl rfl) ?_
           refine of (o_load (i := 0) Tryz.isAgg9 rfl rfl rfl) ?_
           refine oq (o_len_s Tryz.underlying9 rfl) ?_
           refine oq (o_ge rfl rfl) ?_
           refine oq (o_move rfl) ?_
           refine oz c477 ?_
           refine oz c477 ?_
           refine oz c477 ?_
           refine oz c477 ?_
           refine oz c477 ?_
           refine oz c477 ?_
           refine oz c477 ?_
           refine oz c477 ?_
           refine oz c477 ?_
           refine oz c477 ?_
           refine oz c477 ?_
           refine ou ?_
           refine ou ?_
           refine ou ?_
           refine ou ?_
           refine ou ?_
           refine ou ?_
           refine ou ?_
           refine ou ?_
           refine ou ?_
           refine ou ?_
           refine oz c477 ?_
           refine oq (o_pick_t (b := decide ((r1.2.fS.length : Int) ≤ (x368 + 1))) rfl c477 rfl) ?_
           exact obl_e
          exact wtc c477
         ·refine bsplit (!decide ((bat r1.2.fS (x368 + 1)) = 34)) (fun c478 => ?_) (fun c478 => ?_)
          ·refine wc_rdq [0, 4, 9, 10, 11, 12, 13, 14, 15, 16, 17, 19, 20, 21, 22, 23, 24, 25, 26, 27] [⟨[], rv (.pointer (some ⟨b_q, 0, none⟩)), 0⟩, ⟨[0], rv (.pointer (some ⟨b_q, 0, none⟩)), 0⟩, ⟨[1], rv (.pointer (some ⟨b_q, 1, none⟩)), 0⟩, ⟨[2], rI .i64 (x368 + 1), 1⟩, ⟨[], rv (.pointer (some ⟨b_q, 0, none⟩)), 0⟩, ⟨[4], rv (.pointer (some ⟨b_q, 0, none⟩)), 0⟩, ⟨[5], rv (.pointer (some ⟨b_q, 0, none⟩)), 0⟩, ⟨[6], rS r1.2.fS, 1⟩, ⟨[7], rI .i64 (r1.2.fS.length : Int), 0⟩, ⟨[3, 8], rB (decide ((r1.2.fS.length : Int) ≤ (x368 + 1))), 0⟩, ⟨[9], rB (decide ((r1.2.fS.length : Int) ≤ (x368 + 1))), 0⟩, ⟨[10], rv (.pointer (some ⟨b_q, 0, none⟩)), 0⟩, ⟨[11, 10], rv (.pointer (some ⟨b_q, 0, none⟩)), 0⟩, ⟨[12, 10], rv (.pointer (some ⟨b_q, 0, none⟩)), 0⟩, ⟨[13, 10], rS r1.2.fS, 1⟩, ⟨[10], rv (.pointer (some ⟨b_q, 0, none⟩)), 0⟩, ⟨[15, 10], rv (.pointer (some ⟨b_q, 0, none⟩)), 0⟩, ⟨[16, 10], rv (.pointer (some ⟨b_q, 1, none⟩)), 0⟩, ⟨[17, 10], rI .i64 (x368 + 1), 1⟩, ⟨[14, 18, 10], rI .u8 (bat r1.2.fS (x368 + 1)), 0⟩, ⟨[19, 10], rB (!decide ((bat r1.2.fS (x368 + 1)) = 34)), 0⟩, ⟨[20, 10], rB (!decide ((bat r1.2.fS (x368 + 1)) = 34)), 0⟩, ⟨[21], rv (.pointer (some ⟨b_q, 0, none⟩)), 0⟩, ⟨[22, 21], rv (.pointer (some ⟨b_q, 0, none⟩)), 0⟩, ⟨[23, 21], rv (.pointer (some ⟨b_q, 0, none⟩)), 0⟩, ⟨[24, 21], rS r1.2.fS, 1⟩, ⟨[21], rv (.pointer (some ⟨b_q, 0, none⟩)), 0⟩, ⟨[26, 21], rv (.pointer (some ⟨b_q, 0, none⟩)), 0⟩, ⟨[27, 21], rv (.pointer (some ⟨b_q, 1, none⟩)), 0⟩, ⟨[28, 21], rI .i64 (x368 + 1), 1⟩, ⟨[25, 29, 21], rI .u8 (bat r1.2.fS (x368 + 1)), 0⟩, ⟨[30, 21], rB (!decide ((bat r1.2.fS (x368 + 1)) = 92)), 0⟩, ⟨[21, 31, 10], rB (!decide ((bat r1.2.fS (x368 + 1)) = 92)), 0⟩, ⟨[10, 32], rB (!decide ((bat r1.2.fS (x368 + 1)) = 92)), 0⟩] [50, 51, 52, 53, 54, 55, 56, 57, 58, 59, 60, 61, 62, 63, 64, 65, 66, 67, 68, 69, 70, 71, 72, 73, 74, 75, 76, 77, 78, 79, 80, 81, 82, 83, 0, 4, 9, 10, 11, 12, 13, 14, 15, 16, 17, 19, 20, 21, 22, 23, 24, 25, 26, 27] ?_ ?_
           ·refine oq (o_move rfl) ?_
            refine oq (o_nilcheck rfl) ?_
            refine oq (o_fieldAddr Tryz.underlying57 rfl Tryz.sizeOf3 rfl rfl) ?_
            refine of (o_load (i := 0) Tryz.isAgg3 rfl rfl rfl) ?_
            refine oq (o_move rfl) ?_
            refine oq (o_nilcheck rfl) ?_
            refine oq (o_fieldAddr Tryz.underlying57 rfl Tryz.sizeOf9 rfl rfl) ?_
            refine of (o_load (i := 0) Tryz.isAgg9 rfl rfl rfl) ?_
            refine oq (o_len_s Tryz.underlying9 rfl) ?_
            refine oq (o_ge rfl rfl) ?_
            refine oq (o_move rfl) ?_
            refine on c477 ?_
            refine oq (o_move rfl) ?_
            refine on c477 ?_
            refine oq (o_nilcheck rfl) ?_
            refine on c477 ?_
            refine oq (o_fieldAddr Tryz.underlying57 rfl Tryz.sizeOf9 rfl rfl) ?_
            refine on c477 ?_
            refine of (o_load (i := 0) Tryz.isAgg9 rfl rfl rfl) ?_
            refine on c477 ?_
            refine oq (o_move rfl) ?_
            refine on c477 ?_
            refine oq (o_nilcheck rfl) ?_
            refine on c477 ?_
            refine oq (o_fieldAddr Tryz.underlying57 rfl Tryz.sizeOf3 rfl rfl) ?_
            refine on c477 ?_
            refine of (o_load (i := 0) Tryz.isAgg3 rfl rfl rfl) ?_
            refine on c477 ?_
            refine oq (o_index_b Tryz.underlying9 rfl rfl (imp_f g475 c477)) ?_
            refine on c477 ?_
            refine oq (o_ne rfl rfl) ?_
            refine on c477 ?_
            refine oq (o_move rfl) ?_
            refine on c478 ?_
            refine oq (o_move rfl) ?_
            refine on c478 ?_
            refine oq (o_nilcheck rfl) ?_
            refine on c478 ?_
            refine oq (o_fieldAddr Tryz.underlying57 rfl Tryz.sizeOf9 rfl rfl) ?_
            refine on c478 ?_
            refine of (o_load (i := 0) Tryz.isAgg9 rfl rfl rfl) ?_
            refine on c478 ?_
            refine oq (o_move rfl) ?_
            refine on c478 ?_
            refine oq (o_nilcheck rfl) ?_
            refine on c478 ?_
            refine oq (o_fieldAddr Tryz.underlying57 rfl Tryz.sizeOf3 rfl rfl) ?_
            refine on c478 ?_
            refine of (o_load (i := 0) Tryz.isAgg3 rfl rfl rfl) ?_
            refine on c478 ?_
            refine oq (o_index_b Tryz.underlying9 rfl rfl (imp_f g475 c477)) ?_
            refine on c478 ?_
            refine oq (o_ne rfl rfl) ?_
            refine on c477 ?_
            refine oq (o_pick_t rfl c478 rfl) ?_
            refine oq (o_pick_f rfl c477 rfl) ?_
            exact obl_e
           exact wtc (And.intro c477 c478)
          ·refine wc_rdq [0, 4, 9, 10, 11, 12, 13, 14, 15, 16, 17, 19, 20, 21, 22, 23, 24, 25, 26, 27] [⟨[], rv (.pointer (some ⟨b_q, 0, none⟩)), 0⟩, ⟨[0], rv (.pointer (some ⟨b_q, 0, none⟩)), 0⟩, ⟨[1], rv (.pointer (some ⟨b_q, 1, none⟩)), 0⟩, ⟨[2], rI .i64 (x368 + 1), 1⟩, ⟨[], rv (.pointer (some ⟨b_q, 0, none⟩)), 0⟩, ⟨[4], rv (.pointer (some ⟨b_q, 0, none⟩)), 0⟩, ⟨[5], rv (.pointer (some ⟨b_q, 0, none⟩)), 0⟩, ⟨[6], rS r1.2.fS, 1⟩, ⟨[7], rI .i64 (r1.2.fS.length : Int), 0⟩, ⟨[3, 8], rB (decide ((r1.2.fS.length : Int) ≤ (x368 + 1))), 0⟩, ⟨[9], rB (decide ((r1.2.fS.length : Int) ≤ (x368 + 1))), 0⟩, ⟨[10], rv (.pointer (some ⟨b_q, 0, none⟩)), 0⟩, ⟨[11, 10], rv (.pointer (some ⟨b_q, 0, none⟩)), 0⟩, ⟨[12, 10], rv (.pointer (some ⟨b_q, 0, none⟩)), 0⟩, ⟨[13, 10], rS r1.2.fS, 1⟩, ⟨[10], rv (.pointer (some ⟨b_q, 0, none⟩)), 0⟩, ⟨[15, 10], rv (.pointer (some ⟨b_q, 0, none⟩)), 0⟩, ⟨[16, 10], rv (.pointer (some ⟨b_q, 1, none⟩)), 0⟩, ⟨[17, 10], rI .i64 (x368 + 1), 1⟩, ⟨[14, 18, 10], rI .u8 (bat r1.2.fS (x368 + 1)), 0⟩, ⟨[19, 10], rB (!decide ((bat r1.2.fS (x368 + 1)) = 34)), 0⟩, ⟨[20, 10], rB (!decide ((bat r1.2.fS (x368 + 1)) = 34)), 0⟩, ⟨[21], rv undef, 0⟩, ⟨[22, 21], rv undef, 0⟩, ⟨[23, 21], rv undef, 0⟩, ⟨[24, 21], rv undef, 0⟩, ⟨[21], rv undef, 0⟩, ⟨[26, 21], rv undef, 0⟩, ⟨[27, 21], rv undef, 0⟩, ⟨[28, 21], rv undef, 0⟩, ⟨[25, 29, 21], rv undef, 0⟩, ⟨[30, 21], rv undef, 0⟩, ⟨[21, 31, 10], rB false, 0⟩, ⟨[10, 32], rB false, 0⟩] [50, 51, 52, 53, 54, 55, 56, 57, 58, 59, 60, 61, 62, 63, 64, 65, 66, 67, 68, 69, 70, 71, 72, 73, 74, 75, 76, 77, 78, 79, 80, 81, 82, 83, 0, 4, 9, 10, 11, 12, 13, 14, 15, 16, 17, 19, 20, 21, 22, 23, 24, 25, 26, 27] ?_ ?_
           ·refine oq (o_move rfl) ?_
            refine oq (o_nilcheck rfl) ?_
            refine oq (o_fieldAddr Tryz.underlying57 rfl Tryz.sizeOf3 rfl rfl) ?_
            refine of (o_load (i := 0) Tryz.isAgg3 rfl rfl rfl) ?_
            refine oq (o_move rfl) ?_
            refine oq (o_nilcheck rfl) ?_
            refine oq (o_fieldAddr Tryz.underlying57 rfl Tryz.sizeOf9 rfl rfl) ?_
            refine of (o_load (i := 0) Tryz.isAgg9 rfl rfl rfl) ?_
            refine oq (o_len_s Tryz.underlying9 rfl) ?_
            refine oq (o_ge rfl rfl) ?_
            refine oq (o_move rfl) ?_
            refine on c477 ?_
            refine oq (o_move rfl) ?_
            refine on c477 ?_
            refine oq (o_nilcheck rfl) ?_
            refine on c477 ?_
            refine oq (o_fieldAddr Tryz.underlying57 rfl Tryz.sizeOf9 rfl rfl) ?_
            refine on c477 ?_
            refine of (o_load (i := 0) Tryz.isAgg9 rfl rfl rfl) ?_
            refine on c477 ?_
            refine oq (o_move rfl) ?_
            refine on c477 ?_
            refine oq (o_nilcheck rfl) ?_
            refine on c477 ?_
            refine oq (o_fieldAddr Tryz.underlying57 rfl Tryz.sizeOf3 rfl rfl) ?_
            refine on c477 ?_
            refine of (o_load (i := 0) Tryz.isAgg3 rfl rfl rfl) ?_
            refine on c477 ?_
            refine oq (o_index_b Tryz.underlying9 rfl rfl (imp_f g475 c477)) ?_
            refine on c477 ?_
            refine oq (o_ne rfl rfl) ?_
            refine on c477 ?_
            refine oq (o_move rfl) ?_
            refine oz c478 ?_
            refine oz c478 ?_
            refine oz c478 ?_
            refine oz c478 ?_
            refine oz c478 ?_
            refine oz c478 ?_
            refine oz c478 ?_
            refine oz c478 ?_
            refine oz c478 ?_
            refine oz c478 ?_
            refine on c477 ?_
            refine oq (o_pick_f (b := !decide ((bat r1.2.fS (x368 + 1)) = 34)) rfl c478 rfl) ?_
            refine oq (o_pick_f rfl c477 rfl) ?_
            exact obl_e
           exact wtc (And.intro c477 c478)
        refine wc_cond (b := ((decide ((r1.2.fS.length : Int) ≤ (x368 + 1))) || ((!decide ((bat r1.2.fS (x368 + 1)) = 34)) && (!decide ((bat r1.2.fS (x368 + 1)) = 92))))) rfl (fun c479 => ?_) (fun c479 => ?_)
        ·have h480 := cnd_t c479 h476
         refine wc_sr ?_
         refine wv (r := rS ([] : Str)) (o_assign rfl) ?_
         refine wv (r := rB false) (o_assign rfl) ?_
         refine wl_x ?_
         refine wc_ret ?_
         refine wk_then_ret ?_
         refine wk_in_ret ?_
         refine wk_then_ret ?_
         refine wk_in_ret ?_
         refine wk_then_ret ?_
         refine wk_cut_ret ?_
         have h481 := stp_ret h480 ht430 hK428
         refine wk_in_ret ?_
         refine wk_then_ret ?_
         obtain rfl := some_e h481
         exact wk_ret (r_2 Tryz.results66 (rv_t rfl) (rv_t rfl)) (sC (sC (sS sN))) ⟨v4, rfl, rfl⟩
        ·have h482 := cnd_f c479 h476
         refine wc_skip ?_
         refine wk_x ?_
         refine wc_seq ?_
         obtain ⟨g483, h484⟩ := chk_e h482
         refine wc_rdq [0, 4, 9, 10, 11, 12, 13, 14, 15, 16, 17, 19, 20, 21, 22, 23, 24, 25, 26, 27, 50, 51, 52, 53, 54, 55, 56, 57, 58, 59, 60] [⟨[], rv (.pointer (some ⟨b_q, 0, none⟩)), 0⟩, ⟨[0], rv (.pointer (some ⟨b_q, 0, none⟩)), 0⟩, ⟨[1], rv (.pointer (some ⟨b_q, 0, none⟩)), 0⟩, ⟨[2], rS r1.2.fS, 1⟩, ⟨[], rv (.pointer (some ⟨b_q, 0, none⟩)), 0⟩, ⟨[4], rv (.pointer (some ⟨b_q, 0, none⟩)), 0⟩, ⟨[5], rv (.pointer (some ⟨b_q, 1, none⟩)), 0⟩, ⟨[6], rI .i64 (x368 + 1), 1⟩, ⟨[3, 7], rI .u8 (bat r1.2.fS (x368 + 1)), 0⟩, ⟨[8], rI .u8 (bat r1.2.fS (x368 + 1)), 0⟩] [84, 85, 86, 87, 88, 89, 90, 91, 92, 5, 0, 4, 9, 10, 11, 12, 13, 14, 15, 16, 17, 19, 20, 21, 22, 23, 24, 25, 26, 27, 50, 51, 52, 53, 54, 55, 56, 57, 58, 59, 60] ?_ ?_
         ·refine oq (o_move rfl) ?_
          refine oq (o_nilcheck rfl) ?_
          refine oq (o_fieldAddr Tryz.underlying57 rfl Tryz.sizeOf9 rfl rfl) ?_
          refine of (o_load (i := 0) Tryz.isAgg9 rfl rfl rfl) ?_
          refine oq (o_move rfl) ?_
          refine oq (o_nilcheck rfl) ?_
          refine oq (o_fieldAddr Tryz.underlying57 rfl Tryz.sizeOf3 rfl rfl) ?_
          refine of (o_load (i := 0) Tryz.isAgg3 rfl rfl rfl) ?_
          refine oq (o_index_b Tryz.underlying9 rfl rfl g483) ?_
          refine oq (o_assign rfl) ?_
          exact obl_e
         refine wk_x ?_
         refine wc_region ?_
         refine wm rfl ?_
         refine wv (o_nilcheck rfl) ?_
         refine wv (o_fieldAddr Tryz.underlying57 rfl Tryz.sizeOf3 rfl rfl) ?_
         refine wv (o_load (i := 0) Tryz.isAgg3 rfl rfl rfl) ?_
         obtain ⟨g485, h486⟩ := chk_e h484
         refine wv (o_add rfl rfl g485) ?_
         refine wv (o_nilcheck rfl) ?_
         refine wv (o_fieldAddr Tryz.underlying57 rfl Tryz.sizeOf3 rfl rfl) ?_
         refine u_store (i := 0) Tryz.sizeOf3 rfl rfl (one_c rfl) rfl rfl (cs' := [rS r1.2.fS, rI .i64 ((x368 + 1) + 1), rv v4, rB r1.2.fGreat]) rfl (H' := [.blk b_q [rS r1.2.fS, rI .i64 ((x368 + 1) + 1), rv v4, rB r1.2.fGreat] 57, .row v4 63 4 (List.map eTApiCell r1.2.fCells), .row v367 5 1 (List.map eI_u8 x366)]) rfl ?_
         refine wl_nil ?_
         refine wk_in_norm ?_
         exact wk_then (wk_some ((bat r1.2.fS (x368 + 1), (x368 + 1) + 1), ()) h486 (Sub.c rfl (Sub.c5 rfl rfl rfl rfl rfl (Sub.c5 rfl rfl rfl rfl rfl (Sub.c5 rfl rfl rfl rfl rfl (Sub.c5 rfl rfl rfl rfl rfl Sub.nil))))) (sC (sC (sC sN))))
       ·have h487 := cnd_f c473 h472
        refine wc_skip ?_
        refine wk_in_norm ?_
        exact wk_then (wk_some ((bat r1.2.fS x368, x368 + 1), ()) h487 (Sub.c rfl (Sub.c5 rfl rfl rfl rfl rfl (Sub.c5 rfl rfl rfl rfl rfl (Sub.c5 rfl rfl rfl rfl rfl (Sub.c5 rfl rfl rfl rfl rfl Sub.nil))))) (sC (sC (sC sN))))
    ·rintro ⟨⟨x462, x463⟩, ⟨⟩⟩ h488
     refine wc_as (l' := [(0, rv (.pointer (some ⟨b_q, 0, none⟩))), (4, rv v367), (5, rI .u8 x462), (9, rv (.pointer (some ⟨b_q, 0, none⟩))), (10, rv (.pointer (some ⟨b_q, 0, none⟩))), (11, rv (.pointer (some ⟨b_q, 1, none⟩))), (12, rI .i64 x368), (13, rv (.pointer (some ⟨b_q, 0, none⟩))), (14, rv (.pointer (some ⟨b_q, 0, none⟩))), (15, rv (.pointer (some ⟨b_q, 0, none⟩))), (16, rS r1.2.fS), (17, rI .i64 (r1.2.fS.length : Int)), (19, rv (.pointer (some ⟨b_q, 0, none⟩))), (20, rv (.pointer (some ⟨b_q, 0, none⟩))), (21, rv (.pointer (some ⟨b_q, 0, none⟩))), (22, rS r1.2.fS), (23, rv (.pointer (some ⟨b_q, 0, none⟩))), (24, rv (.pointer (some ⟨b_q, 0, none⟩))), (25, rv (.pointer (some ⟨b_q, 1, none⟩))), (26, rI .i64 x368), (27, rI .u8 (bat r1.2.fS x368))]) (H' := [.blk b_q [rS r1.2.fS, rI .i64 x463, rv v4, rB r1.2.fGreat] 57, .row v4 63 4 (List.map eTApiCell r1.2.fCells), .row v367 5 1 (List.map eI_u8 x366)]) rfl rfl ?_
     replace h488 : vRStr_j2 x366 x462 x463 = some t429 := h488
     unfold vRStr_j2 at h488
     refine wc_region ?_
     refine wm rfl ?_
     refine wm rfl ?_
     refine w_buildSlice (ys := ([x462] : List Int)) (enc := eI_u8) (css := [[rI .u8 x462]]) (xs := [.tmp 101]) Tryz.underlying72 Tryz.sizeOf5 Tryz.zeroValue5 rfl rfl rfl ⟨Cel.one rfl (Up.refl _), trivial⟩ rfl eI_u8_len rfl rfl rfl (fun b489 => ?_)
     obtain ⟨g491, h492⟩ := chk_e h488
     obtain ⟨inf, hinf⟩ := info5
     refine w_append (xs := x366) (ys := ([x462] : List Int)) (enc := eI_u8) (i := 3) Tryz.underlying72 hinf.1 hinf.2.1 hinf.2.2.1 hinf.2.2.2 rfl rfl rfl rfl rfl (Src.w (i := 0) rfl rfl) eI_u8_len eI_u8_one g491 rfl (fun v490 => ?_)
     refine wa rfl ?_
     refine wl_nil ?_
     refine wk_in_norm ?_
     refine wk_perm (H2 := [.blk b_q [rS r1.2.fS, rI .i64 x463, rv v4, rB r1.2.fGreat] 57, .row v4 63 4 (List.map eTApiCell r1.2.fCells), .row v490 5 1 (List.map eI_u8 (x366 ++ ([x462] : List Int))), .row (.slice (some ⟨b489, 0, none⟩) 1 1) 5 1 (List.map eI_u8 ([x462] : List Int))]) ((perm_front (i := 2) rfl).trans (List.Perm.cons _ ((perm_front (i := 2) rfl).trans (List.Perm.cons _ (List.Perm.refl _))))) ?_
     have h493 := stp_next h492 ht430
     exact wk_then (wk_some (m431, (x366 ++ ([x462] : List Int), x463), v490) ⟨h493, Nat.lt_succ_self _⟩ (Sub.c rfl (Sub.c rfl Sub.nil)) (sC (sC (sC (sS sN)))))
   ·have h494 := cnd_f c435 h433
    refine wc_exit ?_
    refine wk_then_exit ?_
    have h495 := stp_go h494 ht430 hK428
    exact wk_then_exit (wk_cut_hit (wk_some (x368, ()) h495 Sub.nil (sC (sC (sS sN)))))
  ·rintro ⟨x425, ⟨⟩⟩ h496
   refine wk_as (l' := []) (H' := [.blk b_q [rS r1.2.fS, rI .i64 x425, rv v4, rB r1.2.fGreat] 57, .row v4 63 4 (List.map eTApiCell r1.2.fCells)]) rfl rfl ?_
   replace h496 : vRStr_k1 r1 x425 = some r := h496
   unfold vRStr_k1 at h496
   refine wk_in_hit ?_
   refine wk_x ?_
   refine wc_sr ?_
   refine wv (r := rS ([] : Str)) (o_assign rfl) ?_
   refine wv (r := rB false) (o_assign rfl) ?_
   refine wl_x ?_
   refine wc_ret ?_
   obtain rfl := some_e h496
   exact wk_ret (r_2 Tryz.results66 (rv_t rfl) (rv_t rfl)) (sC (sC sN)) ⟨v4, rfl, rfl⟩

theorem vRInt_w (F : Nat) (b_q : Nat) (v_q_2 : Value) (q : TValueReader) (r : Bool × TValueReader) (h : vRInt F q = some r) : Fn Tryz.prog GE 95 [rv (.pointer (some ⟨b_q, 0, none⟩))] [.blk b_q [rS q.fS, rI .i64 q.fAt, rv v_q_2, rB q.fGreat] 57, .row v_q_2 63 4 (List.map eTApiCell q.fCells)] (fun R H => ∃ w0_2 : Value, R = rB r.1 ∧ H = [.blk b_q [rS r.2.fS, rI .i64 r.2.fAt, rv w0_2, rB r.2.fGreat] 57, .row w0_2 63 4 (List.map eTApiCell r.2.fCells)]) := by
 refine enter (n := 104) Tryz.func95 rfl Tryz.ntmps95 rfl (fun w Z => ?_)
 refine wc_as (l' := [(0, rv (.pointer (some ⟨b_q, 0, none⟩)))]) (H' := [.blk b_q [rS q.fS, rI .i64 q.fAt, rv v_q_2, rB q.fGreat] 57, .row v_q_2 63 4 (List.map eTApiCell q.fCells)]) rfl rfl ?_
 unfold vRInt at h
 refine wc_sr ?_
 refine wv (r := rB false) (o_assign rfl) ?_
 refine wl_y ?_
 refine wm rfl ?_
 refine wv (o_nilcheck rfl) ?_
 refine wv (o_fieldAddr Tryz.underlying57 rfl Tryz.sizeOf3 rfl rfl) ?_
 refine wv (o_load (i := 0) Tryz.isAgg3 rfl rfl rfl) ?_
 refine wa rfl ?_
 refine wl_y ?_
 refine wm rfl ?_
 obtain ⟨r1, e3, h2⟩ := obn_e h
 refine wcl (Hr := []) Tryz.call64 (vTake_w b_q v_q_2 q ([45] : Str) r1 e3) rfl (List.Perm.refl _) rfl ?_
 rintro _ _ ⟨v4, rfl, rfl⟩
 refine wl_y ?_
 refine wm rfl ?_
 refine wv (o_nilcheck rfl) ?_
 refine wv (o_fieldAddr Tryz.underlying57 rfl Tryz.sizeOf3 rfl rfl) ?_
 refine wv (o_load (i := 0) Tryz.isAgg3 rfl rfl rfl) ?_
 refine wa rfl ?_
 refine wl_x ?_
 refine wc_seq ?_
 refine wc_block ?_
 obtain ⟨o86, eo87, hK88⟩ := obn_e h2
 refine wc_loop2 (S := Nat × (Int) × (Unit)) (V := (Int) × (Unit)) 0 (fun σ => lop (fun σ => vRInt_b1 r1 σ) σ.1 σ.2.1 = some o86) (fun σ => [(0, rv (.pointer (some ⟨b_q, 0, none⟩))), (3, rI .i64 q.fAt), (4, rI .i64 r1.2.fAt)]) (fun σ => [.blk b_q [rS r1.2.fS, rI .i64 σ.2.1, rv v4, rB r1.2.fGreat] 57, .row v4 63 4 (List.map eTApiCell r1.2.fCells)]) (fun σ => σ.1) (F, r1.2.fAt, ()) eo87 (Sub.c rfl (Sub.c rfl (Sub.c rfl Sub.nil))) (sC (sC sN)) (fun σ => vRInt_k1 q r1 σ.1 = some r) (fun σ => [(0, rv (.pointer (some ⟨b_q, 0, none⟩))), (3, rI .i64 q.fAt), (4, rI .i64 r1.2.fAt)]) (fun σ => [.blk b_q [rS r1.2.fS, rI .i64 σ.1, rv v4, rB r1.2.fGreat] 57, .row v4 63 4 (List.map eTApiCell r1.2.fCells)]) ?_ ?_
 ·rintro ⟨n94, x75, ⟨⟩⟩ hi92
  refine wc_as (l' := [(0, rv (.pointer (some ⟨b_q, 0, none⟩))), (3, rI .i64 q.fAt), (4, rI .i64 r1.2.fAt)]) (H' := [.blk b_q [rS r1.2.fS, rI .i64 x75, rv v4, rB r1.2.fGreat] 57, .row v4 63 4 (List.map eTApiCell r1.2.fCells)]) rfl rfl ?_
  obtain ⟨m91, rfl, t89, h93, ht90⟩ := lop_e hi92
  replace h93 : vRInt_b1 r1 x75 = some t89 := h93
  unfold vRInt_b1 at h93
  refine wc_seq ?_
  obtain ⟨g95, h96⟩ := chk_e h93
  refine wc_seq_mid [(0, rv (.pointer (some ⟨b_q, 0, none⟩))), (3, rI .i64 q.fAt), (4, rI .i64 r1.2.fAt), (17, rv (.pointer (some ⟨b_q, 0, none⟩))), (18, rv (.pointer (some ⟨b_q, 0, none⟩))), (19, rv (.pointer (some ⟨b_q, 1, none⟩))), (20, rI .i64 x75), (21, rv (.pointer (some ⟨b_q, 0, none⟩))), (22, rv (.pointer (some ⟨b_q, 0, none⟩))), (23, rv (.pointer (some ⟨b_q, 0, none⟩))), (24, rS r1.2.fS), (25, rI .i64 (r1.2.fS.length : Int)), (26, rB (decide (x75 < (r1.2.fS.length : Int)))), (27, rB (decide (x75 < (r1.2.fS.length : Int)))), (38, rB ((decide (x75 < (r1.2.fS.length : Int))) && (decide (48 ≤ (bat r1.2.fS x75))))), (39, rB ((decide (x75 < (r1.2.fS.length : Int))) && (decide (48 ≤ (bat r1.2.fS x75))))), (50, rB ((decide (x75 < (r1.2.fS.length : Int))) && ((decide (48 ≤ (bat r1.2.fS x75))) && (decide ((bat r1.2.fS x75) ≤ 57)))))] [.blk b_q [rS r1.2.fS, rI .i64 x75, rv v4, rB r1.2.fGreat] 57, .row v4 63 4 (List.map eTApiCell r1.2.fCells)] ?_ ?_
  ·refine bsplit (decide (x75 < (r1.2.fS.length : Int))) (fun c97 => ?_) (fun c97 => ?_)
   ·refine bsplit (decide (48 ≤ (bat r1.2.fS x75))) (fun c98 => ?_) (fun c98 => ?_)
    ·refine wc_rdq [0, 3, 4] [⟨[], rv (.pointer (some ⟨b_q, 0, none⟩)), 0⟩, ⟨[0], rv (.pointer (some ⟨b_q, 0, none⟩)), 0⟩, ⟨[1], rv (.pointer (some ⟨b_q, 1, none⟩)), 0⟩, ⟨[2], rI .i64 x75, 1⟩, ⟨[], rv (.pointer (some ⟨b_q, 0, none⟩)), 0⟩, ⟨[4], rv (.pointer (some ⟨b_q, 0, none⟩)), 0⟩, ⟨[5], rv (.pointer (some ⟨b_q, 0, none⟩)), 0⟩, ⟨[6], rS r1.2.fS, 1⟩, ⟨[7], rI .i64 (r1.2.fS.length : Int), 0⟩, ⟨[3, 8], rB (decide (x75 < (r1.2.fS.length : Int))), 0⟩, ⟨[9], rB (decide (x75 < (r1.2.fS.length : Int))), 0⟩, ⟨[10], rv (.pointer (some ⟨b_q, 0, none⟩)), 0⟩, ⟨[11, 10], rv (.pointer (some ⟨b_q, 0, none⟩)), 0⟩, ⟨[12, 10], rv (.pointer (some ⟨b_q, 0, none⟩)), 0⟩, ⟨[13, 10], rS r1.2.fS, 1⟩, ⟨[10], rv (.pointer (some ⟨b_q, 0, none⟩)), 0⟩, ⟨[15, 10], rv (.pointer (some ⟨b_q, 0, none⟩)), 0⟩, ⟨[16, 10], rv (.pointer (some ⟨b_q, 1, none⟩)), 0⟩, ⟨[17, 10], rI .i64 x75, 1⟩, ⟨[14, 18, 10], rI .u8 (bat r1.2.fS x75), 0⟩, ⟨[19, 10], rB (decide (48 ≤ (bat r1.2.fS x75))), 0⟩, ⟨[10, 20], rB (decide (48 ≤ (bat r1.2.fS x75))), 0⟩, ⟨[21], rB (decide (48 ≤ (bat r1.2.fS x75))), 0⟩, ⟨[22], rv (.pointer (some ⟨b_q, 0, none⟩)), 0⟩, ⟨[23, 22], rv (.pointer (some ⟨b_q, 0, none⟩)), 0⟩, ⟨[24, 22], rv (.pointer (some ⟨b_q, 0, none⟩)), 0⟩, ⟨[25, 22], rS r1.2.fS, 1⟩, ⟨[22], rv (.pointer (some ⟨b_q, 0, none⟩)), 0⟩, ⟨[27, 22], rv (.pointer (some ⟨b_q, 0, none⟩)), 0⟩, ⟨[28, 22], rv (.pointer (some ⟨b_q, 1, none⟩)), 0⟩, ⟨[29, 22], rI .i64 x75, 1⟩, ⟨[26, 30, 22], rI .u8 (bat r1.2.fS x75), 0⟩, ⟨[31, 22], rB (decide ((bat r1.2.fS x75) ≤ 57)), 0⟩, ⟨[22, 32], rB (decide ((bat r1.2.fS x75) ≤ 57)), 0⟩] [17, 18, 19, 20, 21, 22, 23, 24, 25, 26, 27, 28, 29, 30, 31, 32, 33, 34, 35, 36, 37, 38, 39, 40, 41, 42, 43, 44, 45, 46, 47, 48, 49, 50, 0, 3, 4] ?_ ?_
     ·refine oq (o_move rfl) ?_
      refine oq (o_nilcheck rfl) ?_
      refine oq (o_fieldAddr Tryz.underlying57 rfl Tryz.sizeOf3 rfl rfl) ?_
      refine of (o_load (i := 0) Tryz.isAgg3 rfl rfl rfl) ?_
      refine oq (o_move rfl) ?_
      refine oq (o_nilcheck rfl) ?_
      refine oq (o_fieldAddr Tryz.underlying57 rfl Tryz.sizeOf9 rfl rfl) ?_
      refine of (o_load (i := 0) Tryz.isAgg9 rfl rfl rfl) ?_
      refine oq (o_len_s Tryz.underlying9 rfl) ?_
      refine oq (o_lt rfl rfl) ?_
      refine oq (o_move rfl) ?_
      refine on c97 ?_
      refine oq (o_move rfl) ?_
      refine on c97 ?_
      refine oq (o_nilcheck rfl) ?_
      refine on c97 ?_
      refine oq (o_fieldAddr Tryz.underlying57 rfl Tryz.sizeOf9 rfl rfl) ?_
      refine on c97 ?_
      refine of (o_load (i := 0) Tryz.isAgg9 rfl rfl rfl) ?_
      refine on c97 ?_
      refine oq (o_move rfl) ?_
      refine on c97 ?_
      refine oq (o_nilcheck rfl) ?_
      refine on c97 ?_
      refine oq (o_fieldAddr Tryz.underlying57 rfl Tryz.sizeOf3 rfl rfl) ?_
      refine on c97 ?_
      refine of (o_load (i := 0) Tryz.isAgg3 rfl rfl rfl) ?_
      refine on c97 ?_
      refine oq (o_index_b Tryz.underlying9 rfl rfl (imp_t g95 c97)) ?_
      refine on c97 ?_
      refine oq (o_ge rfl rfl) ?_
      refine oq (o_pick_t rfl c97 rfl) ?_
      refine oq (o_move rfl) ?_
      refine on c98 ?_
      refine oq (o_move rfl) ?_
      refine on c98 ?_
      refine oq (o_nilcheck rfl) ?_
      refine on c98 ?_
      refine oq (o_fieldAddr Tryz.underlying57 rfl Tryz.sizeOf9 rfl rfl) ?_
      refine on c98 ?_
      refine of (o_load (i := 0) Tryz.isAgg9 rfl rfl rfl) ?_
      refine on c98 ?_
      refine oq (o_move rfl) ?_
      refine on c98 ?_
      refine oq (o_nilcheck rfl) ?_
      refine on c98 ?_
      refine oq (o_fieldAddr Tryz.underlying57 rfl Tryz.sizeOf3 rfl rfl) ?_
      refine on c98 ?_
      refine of (o_load (i := 0) Tryz.isAgg3 rfl rfl rfl) ?_
      refine on c98 ?_
      refine oq (o_index_b Tryz.underlying9 rfl rfl (imp_t g95 c97)) ?_
      refine on c98 ?_
      refine oq (o_le rfl rfl) ?_
      refine oq (o_pick_t rfl c98 rfl) ?_
      exact obl_e
     exact wtc (And.intro c97 c98)
    ·refine wc_rdq [0, 3, 4] [⟨[], rv (.pointer (some ⟨b_q, 0, none⟩)), 0⟩, ⟨[0], rv (.pointer (some ⟨b_q, 0, none⟩)), 0⟩, ⟨[1], rv (.pointer (some ⟨b_q, 1, none⟩)), 0⟩, ⟨[2], rI .i64 x75, 1⟩, ⟨[], rv (.pointer (some ⟨b_q, 0, none⟩)), 0⟩, ⟨[4], rv (.pointer (some ⟨b_q, 0, none⟩)), 0⟩, ⟨[5], rv (.pointer (some ⟨b_q, 0, none⟩)), 0⟩, ⟨[6], rS r1.2.fS, 1⟩, ⟨[7], rI .i64 (r1.2.fS.length : Int), 0⟩, ⟨[3, 8], rB (decide (x75 < (r1.2.fS.length : Int))), 0⟩, ⟨[9], rB (decide (x75 < (r1.2.fS.length : Int))), 0⟩, ⟨[10], rv (.pointer (some ⟨b_q, 0, none⟩)), 0⟩, ⟨[11, 10], rv (.pointer (some ⟨b_q, 0, none⟩)), 0⟩, ⟨[12, 10], rv (.pointer (some ⟨b_q, 0, none⟩)), 0⟩, ⟨[13, 10], rS r1.2.fS, 1⟩, ⟨[10], rv (.pointer (some ⟨b_q, 0, none⟩)), 0⟩, ⟨[15, 10], rv (.pointer (some ⟨b_q, 0, none⟩)), 0⟩, ⟨[16, 10], rv (.pointer (some ⟨b_q, 1, none⟩)), 0⟩, ⟨[17, 10], rI .i64 x75, 1⟩, ⟨[14, 18, 10], rI .u8 (bat r1.2.fS x75), 0⟩, ⟨[19, 10], rB (decide (48 ≤ (bat r1.2.fS x75))), 0⟩, ⟨[10, 20], rB (decide (48 ≤ (bat r1.2.fS x75))), 0⟩, ⟨[21], rB (decide (48 ≤ (bat r1.2.fS x75))), 0⟩, ⟨[22], rv undef, 0⟩, ⟨[23, 22], rv undef, 0⟩, ⟨[24, 22], rv undef, 0⟩, ⟨[25, 22], rv undef, 0⟩, ⟨[22], rv undef, 0⟩, ⟨[27, 22], rv undef, 0⟩, ⟨[28, 22], rv undef, 0⟩, ⟨[29, 22], rv undef, 0⟩, ⟨[26, 30, 22], rv undef, 0⟩, ⟨[31, 22], rv undef, 0⟩, ⟨[22, 32], rB false, 0⟩] [17, 18, 19, 20, 21, 22, 23, 24, 25, 26, 27, 28, 29, 30, 31, 32, 33, 34, 35, 36, 37, 38, 39, 40, 41, 42, 43, 44, 45, 46, 47, 48, 49, 50, 0, 3, 4] ?_ ?_
     ·refine oq (o_move rfl) ?_
      refine oq (o_nilcheck rfl) ?_
      refine oq (o_fieldAddr Tryz.underlying57 rfl Tryz.sizeOf3 rfl rfl) ?_
      refine of (o_load (i := 0) Tryz.isAgg3 rfl rfl rfl) ?_
      refine oq (o_move rfl) ?_
      refine oq (o_nilcheck rfl) ?_
      refine oq (o_fieldAddr Tryz.underlying57 rfl Tryz.sizeOf9 rfl rfl) ?_
      refine of (o_load (i := 0) Tryz.isAgg9 rfl rfl rfl) ?_
      refine oq (o_len_s Tryz.underlying9 rfl) ?_
      refine oq (o_lt rfl rfl) ?_
      refine oq (o_move rfl) ?_
      refine on c97 ?_
      refine oq (o_move rfl) ?_
      refine on c97 ?_
      refine oq (o_nilcheck rfl) ?_
      refine on c97 ?_
      refine oq (o_fieldAddr Tryz.underlying57 rfl Tryz.sizeOf9 rfl rfl) ?_
      refine on c97 ?_
      refine of (o_load (i := 0) Tryz.isAgg9 rfl rfl rfl) ?_
      refine on c97 ?_
      refine oq (o_move rfl) ?_
      refine on c97 ?_
      refine oq (o_nilcheck rfl) ?_
      refine on c97 ?_
      refine oq (o_fieldAddr Tryz.underlying57 rfl Tryz.sizeOf3 rfl rfl) ?_
      refine on c97 ?_
      refine of (o_load (i := 0) Tryz.isAgg3 rfl rfl rfl) ?_
      refine on c97 ?_
      refine oq (o_index_b Tryz.underlying9 rfl rfl (imp_t g95 c97)) ?_
      refine on c97 ?_
      refine oq (o_ge rfl rfl) ?_
      refine oq (o_pick_t rfl c97 rfl) ?_
      refine oq (o_move rfl) ?_
      refine oz c98 ?_
      refine oz c98 ?_
      refine oz c98 ?_
      refine oz c98 ?_
      refine oz c98 ?_
      refine oz c98 ?_
      refine oz c98 ?_
      refine oz c98 ?_
      refine oz c98 ?_
      refine oz c98 ?_
      refine oq (o_pick_f (b := decide (48 ≤ (bat r1.2.fS x75))) rfl c98 rfl) ?_
      exact obl_e
     exact wtc (And.intro c97 c98)
   ·refine wc_rdq [0, 3, 4] [⟨[], rv (.pointer (some ⟨b_q, 0, none⟩)), 0⟩, ⟨[0], rv (.pointer (some ⟨b_q, 0, none⟩)), 0⟩, ⟨[1], rv (.pointer (some ⟨b_q, 1, none⟩)), 0⟩, ⟨[2], rI .i64 x75, 1⟩, ⟨[], rv (.pointer (some ⟨b_q, 0, none⟩)), 0⟩, ⟨[4], rv (.pointer (some ⟨b_q, 0, none⟩)), 0⟩, ⟨[5], rv (.pointer (some ⟨b_q, 0, none⟩)), 0⟩, ⟨[6], rS r1.2.fS, 1⟩, ⟨[7], rI .i64 (r1.2.fS.length : Int), 0⟩, ⟨[3, 8], rB (decide (x75 < (r1.2.fS.length : Int))), 0⟩, ⟨[9], rB (decide (x75 < (r1.2.fS.length : Int))), 0⟩, ⟨[10], rv undef, 0⟩, ⟨[11, 10], rv undef, 0⟩, ⟨[12, 10], rv undef, 0⟩, ⟨[13, 10], rv undef, 0⟩, ⟨[10], rv undef, 0⟩, ⟨[15, 10], rv undef, 0⟩, ⟨[16, 10], rv undef, 0⟩, ⟨[17, 10], rv undef, 0⟩, ⟨[14, 18, 10], rv undef, 0⟩, ⟨[19, 10], rv undef, 0⟩, ⟨[10, 20], rB false, 0⟩, ⟨[21], rB false, 0⟩, ⟨[22], rv undef, 0⟩, ⟨[23, 22], rv undef, 0⟩, ⟨[24, 22], rv undef, 0⟩, ⟨[25, 22], rv undef, 0⟩, ⟨[22], rv undef, 0⟩, ⟨[27, 22], rv undef, 0⟩, ⟨[28, 22], rv undef, 0⟩, ⟨[29, 22], rv undef, 0⟩, ⟨[26, 30, 22], rv undef, 0⟩, ⟨[31, 22], rv undef, 0⟩, ⟨[22, 32], rB false, 0⟩] [17, 18, 19, 20, 21, 22, 23, 24, 25, 26, 27, 28, 29, 30, 31, 32, 33, 34, 35, 36, 37, 38, 39, 40, 41, 42, 43, 44, 45, 46, 47, 48, 49, 50, 0, 3, 4] ?_ ?_
    ·refine oq (o_move rfl) ?_
     refine oq (o_nilcheck rfl) ?_
     refine oq (o_fieldAddr Tryz.underlying57 rfl Tryz.sizeOf3 rfl rfl) ?_
     refine of (o_load (i := 0) Tryz.isAgg3 rfl rfl rfl) ?_
     refine oq (o_move rfl) ?_
     refine oq (o_nilcheck rfl) ?_
     refine oq (o_fieldAddr Tryz.underlying57 rfl Tryz.sizeOf9 rfl rfl) ?_
     refine of (o_load (i := 0) Tryz.isAgg9 rfl rfl rfl) ?_
     refine oq (o_len_s Tryz.underlying9 rfl) ?_
     refine oq (o_lt rfl rfl) ?_
     refine oq (o_move rfl) ?_
     refine oz c97 ?_
     refine oz c97 ?_
     refine oz c97 ?_
     refine oz c97 ?_
     refine oz c97 ?_
     refine oz c97 ?_
     refine oz c97 ?_
     refine oz c97 ?_
     refine oz c97 ?_
     refine oz c97 ?_
     refine oq (o_pick_f (b := decide (x75 < (r1.2.fS.length : Int))) rfl c97 rfl) ?_
     refine oq (o_move rfl) ?_
     refine oz rfl ?_
     refine oz rfl ?_
     refine oz rfl ?_
     refine oz rfl ?_
     refine oz rfl ?_
     refine oz rfl ?_
     refine oz rfl ?_
     refine oz rfl ?_
     refine oz rfl ?_
     refine oz rfl ?_
     refine oq (o_pick_f (b := false) rfl rfl rfl) ?_
     exact obl_e
    exact wtc c97
  refine wc_cond (b := ((decide (x75 < (r1.2.fS.length : Int))) && ((decide (48 ≤ (bat r1.2.fS x75))) && (decide ((bat r1.2.fS x75) ≤ 57))))) rfl (fun c99 => ?_) (fun c99 => ?_)
  ·have h100 := cnd_t c99 h96
   refine wc_skip ?_
   refine wk_x ?_
   refine wc_block ?_
   refine wc_region ?_
   refine wm rfl ?_
   refine wv (o_nilcheck rfl) ?_
   refine wv (o_fieldAddr Tryz.underlying57 rfl Tryz.sizeOf3 rfl rfl) ?_
   refine wv (o_load (i := 0) Tryz.isAgg3 rfl rfl rfl) ?_
   obtain ⟨g101, h102⟩ := chk_e h100
   refine wv (o_add rfl rfl g101) ?_
   refine wv (o_nilcheck rfl) ?_
   refine wv (o_fieldAddr Tryz.underlying57 rfl Tryz.sizeOf3 rfl rfl) ?_
   refine u_store (i := 0) Tryz.sizeOf3 rfl rfl (one_c rfl) rfl rfl (cs' := [rS r1.2.fS, rI .i64 (x75 + 1), rv v4, rB r1.2.fGreat]) rfl (H' := [.blk b_q [rS r1.2.fS, rI .i64 (x75 + 1), rv v4, rB r1.2.fGreat] 57, .row v4 63 4 (List.map eTApiCell r1.2.fCells)]) rfl ?_
   refine wl_nil ?_
   refine wk_in_norm ?_
   have h103 := stp_next h102 ht90
   exact wk_then (wk_some (m91, x75 + 1, ()) ⟨h103, Nat.lt_succ_self _⟩ (Sub.c rfl (Sub.c rfl (Sub.c rfl Sub.nil))) (sC (sC sN)))
  ·have h104 := cnd_f c99 h96
   refine wc_exit ?_
   refine wk_then_exit ?_
   have h105 := stp_go h104 ht90 hK88
   exact wk_then_exit (wk_cut_hit (wk_some (x75, ()) h105 (Sub.c rfl (Sub.c rfl (Sub.c rfl Sub.nil))) (sC (sC sN))))
 ·rintro ⟨x85, ⟨⟩⟩ h106
  refine wk_as (l' := [(0, rv (.pointer (some ⟨b_q, 0, none⟩))), (3, rI .i64 q.fAt), (4, rI .i64 r1.2.fAt)]) (H' := [.blk b_q [rS r1.2.fS, rI .i64 x85, rv v4, rB r1.2.fGreat] 57, .row v4 63 4 (List.map eTApiCell r1.2.fCells)]) rfl rfl ?_
  replace h106 : vRInt_k1 q r1 x85 = some r := h106
  unfold vRInt_k1 at h106
  refine wk_in_hit ?_
  refine wk_x ?_
  refine wc_seq ?_
  obtain ⟨g107, h108⟩ := chk_e h106
  obtain ⟨g109, h110⟩ := chk_e h108
  obtain ⟨g111, h112⟩ := chk_e h110
  refine wc_rdq [0, 3, 4] [⟨[], rv (.pointer (some ⟨b_q, 0, none⟩)), 0⟩, ⟨[0], rv (.pointer (some ⟨b_q, 0, none⟩)), 0⟩, ⟨[1], rv (.pointer (some ⟨b_q, 0, none⟩)), 0⟩, ⟨[2], rS r1.2.fS, 1⟩, ⟨[], rI .i64 q.fAt, 0⟩, ⟨[], rv (.pointer (some ⟨b_q, 0, none⟩)), 0⟩, ⟨[5], rv (.pointer (some ⟨b_q, 0, none⟩)), 0⟩, ⟨[6], rv (.pointer (some ⟨b_q, 1, none⟩)), 0⟩, ⟨[7], rI .i64 x85, 1⟩, ⟨[3, 4, 8], rS (List.take (Int.toNat x85 - Int.toNat q.fAt) (List.drop (Int.toNat q.fAt) r1.2.fS)), 0⟩, ⟨[9], rTup [rI .i64 (parseV (List.take (Int.toNat x85 - Int.toNat q.fAt) (List.drop (Int.toNat q.fAt) r1.2.fS))), rI .i64 (parseE (List.take (Int.toNat x85 - Int.toNat q.fAt) (List.drop (Int.toNat q.fAt) r1.2.fS)))], 0⟩, ⟨[10], rTup [rI .i64 (parseV (List.take (Int.toNat x85 - Int.toNat q.fAt) (List.drop (Int.toNat q.fAt) r1.2.fS))), rI .i64 (parseE (List.take (Int.toNat x85 - Int.toNat q.fAt) (List.drop (Int.toNat q.fAt) r1.2.fS)))], 0⟩, ⟨[11], rI .i64 (parseV (List.take (Int.toNat x85 - Int.toNat q.fAt) (List.drop (Int.toNat q.fAt) r1.2.fS))), 0⟩, ⟨[11], rI .i64 (parseE (List.take (Int.toNat x85 - Int.toNat q.fAt) (List.drop (Int.toNat q.fAt) r1.2.fS))), 0⟩, ⟨[12], rI .i64 (parseV (List.take (Int.toNat x85 - Int.toNat q.fAt) (List.drop (Int.toNat q.fAt) r1.2.fS))), 0⟩, ⟨[13], rI .i64 (parseE (List.take (Int.toNat x85 - Int.toNat q.fAt) (List.drop (Int.toNat q.fAt) r1.2.fS))), 0⟩] [5, 6, 0, 4] ?_ ?_
  ·refine oq (o_move rfl) ?_
   refine oq (o_nilcheck rfl) ?_
   refine oq (o_fieldAddr Tryz.underlying57 rfl Tryz.sizeOf9 rfl rfl) ?_
   refine of (o_load (i := 0) Tryz.isAgg9 rfl rfl rfl) ?_
   refine oq (o_move rfl) ?_
   refine oq (o_move rfl) ?_
   refine oq (o_nilcheck rfl) ?_
   refine oq (o_fieldAddr Tryz.underlying57 rfl Tryz.sizeOf3 rfl rfl) ?_
   refine of (o_load (i := 0) Tryz.isAgg3 rfl rfl rfl) ?_
   refine oq (o_slice_lh Tryz.underlying9 rfl rfl rfl g107 g109) ?_
   refine obl_q rfl (fun H => ok_call0 (rs := [rS (List.take (Int.toNat x85 - Int.toNat q.fAt) (List.drop (Int.toNat q.fAt) r1.2.fS))]) (r := rTup [rI .i64 (parseV (List.take (Int.toNat x85 - Int.toNat q.fAt) (List.drop (Int.toNat q.fAt) r1.2.fS))), rI .i64 (parseE (List.take (Int.toNat x85 - Int.toNat q.fAt) (List.drop (Int.toNat q.fAt) r1.2.fS)))]) Tryz.call104 rfl (parse_q (List.take (Int.toNat x85 - Int.toNat q.fAt) (List.drop (Int.toNat q.fAt) r1.2.fS)) g111) rfl) ?_
   refine oq (o_move rfl) ?_
   refine oq (o_extract rfl rfl) ?_
   refine oq (o_extract rfl rfl) ?_
   refine oq (o_assign rfl) ?_
   refine oq (o_assign rfl) ?_
   exact obl_e
  refine wk_x ?_
  refine wc_seq ?_
  refine wc_seq_mid [(0, rv (.pointer (some ⟨b_q, 0, none⟩))), (5, rI .i64 (parseV (List.take (Int.toNat x85 - Int.toNat q.fAt) (List.drop (Int.toNat q.fAt) r1.2.fS)))), (6, rI .i64 (parseE (List.take (Int.toNat x85 - Int.toNat q.fAt) (List.drop (Int.toNat q.fAt) r1.2.fS)))), (81, rB ((decide ((parseE (List.take (Int.toNat x85 - Int.toNat q.fAt) (List.drop (Int.toNat q.fAt) r1.2.fS))) = 1)) || (decide (r1.2.fAt = x85))))] [.blk b_q [rS r1.2.fS, rI .i64 x85, rv v4, rB r1.2.fGreat] 57, .row v4 63 4 (List.map eTApiCell r1.2.fCells)] ?_ ?_
  ·refine wc_region ?_
   refine wm rfl ?_
   refine wv (o_eq rfl rfl) ?_
   refine wm rfl ?_
   refine bsplit (decide ((parseE (List.take (Int.toNat x85 - Int.toNat q.fAt) (List.drop (Int.toNat q.fAt) r1.2.fS))) = 1)) (fun c113 => ?_) (fun c113 => ?_)
   ·refine wf c113 ?_
    refine wf c113 ?_
    refine wf c113 ?_
    refine wf c113 ?_
    refine wf c113 ?_
    refine wf c113 ?_
    refine wv (r := rB true) (o_pick_t (b := decide ((parseE (List.take (Int.toNat x85 - Int.toNat q.fAt) (List.drop (Int.toNat q.fAt) r1.2.fS))) = 1)) rfl c113 rfl) ?_
    refine wl_nil ?_
    exact wtc c113
   ·refine wo c113 ?_
    refine wm rfl ?_
    refine wo c113 ?_
    refine wm rfl ?_
    refine wo c113 ?_
    refine wv (o_nilcheck rfl) ?_
    refine wo c113 ?_
    refine wv (o_fieldAddr Tryz.underlying57 rfl Tryz.sizeOf3 rfl rfl) ?_
    refine wo c113 ?_
    refine wv (o_load (i := 0) Tryz.isAgg3 rfl rfl rfl) ?_
    refine wo c113 ?_
    refine wv (o_eq rfl rfl) ?_
    refine wpf rfl c113 rfl ?_
    refine wl_nil ?_
    exact wtc c113
  refine wc_cond (b := ((decide ((parseE (List.take (Int.toNat x85 - Int.toNat q.fAt) (List.drop (Int.toNat q.fAt) r1.2.fS))) = 1)) || (decide (r1.2.fAt = x85)))) rfl (fun c114 => ?_) (fun c114 => ?_)
  ·have h115 := cnd_t c114 h112
   refine wc_sr ?_
   refine wv (r := rB false) (o_assign rfl) ?_
   refine wl_x ?_
   refine wc_ret ?_
   refine wk_then_ret ?_
   obtain rfl := some_e h115
   exact wk_ret (r_1 Tryz.results95 (rv_t rfl)) (sC (sC sN)) ⟨v4, rfl, rfl⟩
  ·have h116 := cnd_f c114 h112
   refine wc_skip ?_
   refine wk_x ?_
   refine wc_seq_mid [(0, rv (.pointer (some ⟨b_q, 0, none⟩))), (5, rI .i64 (parseV (List.take (Int.toNat x85 - Int.toNat q.fAt) (List.drop (Int.toNat q.fAt) r1.2.fS))))] [.blk b_q [rS r1.2.fS, rI .i64 x85, rv v4, rB (r1.2.fGreat || (!decide ((parseE (List.take (Int.toNat x85 - Int.toNat q.fAt) (List.drop (Int.toNat q.fAt) r1.2.fS))) = 0)))] 57, .row v4 63 4 (List.map eTApiCell r1.2.fCells)] ?_ ?_
   ·refine wc_region ?_
    refine wm rfl ?_
    refine wm rfl ?_
    refine wv (o_nilcheck rfl) ?_
    refine wv (o_fieldAddr Tryz.underlying57 rfl Tryz.sizeOf4 rfl rfl) ?_
    refine wv (o_load (i := 0) Tryz.isAgg4 rfl rfl rfl) ?_
    refine wm rfl ?_
    refine bsplit (r1.2.fGreat) (fun c117 => ?_) (fun c117 => ?_)
    ·refine wf c117 ?_
     refine wf c117 ?_
     refine wv (r := rB true) (o_pick_t (b := r1.2.fGreat) rfl c117 rfl) ?_
     refine wv (o_nilcheck rfl) ?_
     refine wv (o_fieldAddr Tryz.underlying57 rfl Tryz.sizeOf4 rfl rfl) ?_
     refine u_store (i := 0) Tryz.sizeOf4 rfl rfl (one_c rfl) rfl rfl (cs' := [rS r1.2.fS, rI .i64 x85, rv v4, rB true]) rfl (H' := [.blk b_q [rS r1.2.fS, rI .i64 x85, rv v4, rB true] 57, .row v4 63 4 (List.map eTApiCell r1.2.fCells)]) rfl ?_
     refine wl_nil ?_
     refine wk_asH (H' := [.blk b_q [rS r1.2.fS, rI .i64 x85, rv v4, rB (r1.2.fGreat || (!decide ((parseE (List.take (Int.toNat x85 - Int.toNat q.fAt) (List.drop (Int.toNat q.fAt) r1.2.fS))) = 0)))] 57, .row v4 63 4 (List.map eTApiCell r1.2.fCells)]) (by simp only [c117, Bool.true_and, Bool.false_and, Bool.true_or, Bool.false_or, Bool.and_true, Bool.and_false, Bool.or_true, Bool.or_false, Bool.not_true, Bool.not_false, cond_true, cond_false]) ?_
     exact wt
    ·refine wo c117 ?_
     refine wm rfl ?_
     refine wo c117 ?_
     refine wv (o_ne rfl rfl) ?_
     refine wpf rfl c117 rfl ?_
     refine wv (o_nilcheck rfl) ?_
     refine wv (o_fieldAddr Tryz.underlying57 rfl Tryz.sizeOf4 rfl rfl) ?_
     refine u_store (i := 0) Tryz.sizeOf4 rfl rfl (one_c rfl) rfl rfl (cs' := [rS r1.2.fS, rI .i64 x85, rv v4, rB (!decide ((parseE (List.take (Int.toNat x85 - Int.toNat q.fAt) (List.drop (Int.toNat q.fAt) r1.2.fS))) = 0))]) rfl (H' := [.blk b_q [rS r1.2.fS, rI .i64 x85, rv v4, rB (!decide ((parseE (List.take (Int.toNat x85 - Int.toNat q.fAt) (List.drop (Int.toNat q.fAt) r1.2.fS))) = 0))] 57, .row v4 63 4 (List.map eTApiCell r1.2.fCells)]) rfl ?_
     refine wl_nil ?_
     refine wk_asH (H' := [.blk b_q [rS r1.2.fS, rI .i64 x85, rv v4, rB (r1.2.fGreat || (!decide ((parseE (List.take (Int.toNat x85 - Int.toNat q.fAt) (List.drop (Int.toNat q.fAt) r1.2.fS))) = 0)))] 57, .row v4 63 4 (List.map eTApiCell r1.2.fCells)]) (by simp only [c117, Bool.true_and, Bool.false_and, Bool.true_or, Bool.false_or, Bool.and_true, Bool.and_false, Bool.or_true, Bool.or_false, Bool.not_true, Bool.not_false, cond_true, cond_false]) ?_
     exact wt
   refine wc_sr ?_
   refine wm rfl ?_
   refine wm rfl ?_
   refine wv (o_nilcheck rfl) ?_
   refine wv (o_fieldAddr Tryz.underlying57 rfl Tryz.sizeOf23 rfl rfl) ?_
   refine wv (o_load (i := 0) Tryz.isAgg23 rfl rfl rfl) ?_
   refine wm rfl ?_
   refine wv (r := rAgg [rI .i64 3, rI .i64 (parseV (List.take (Int.toNat x85 - Int.toNat q.fAt) (List.drop (Int.toNat q.fAt) r1.2.fS))), rS ([] : Str), rI .i64 0]) (o_build63_0_1 rfl rfl rfl rfl) ?_
   refine w_buildSlice (ys := ([(TApiCell.mk 3 (parseV (List.take (Int.toNat x85 - Int.toNat q.fAt) (List.drop (Int.toNat q.fAt) r1.2.fS))) ([] : Str) 0)] : List TApiCell)) (enc := eTApiCell) (css := [[rI .i64 3, rI .i64 (parseV (List.take (Int.toNat x85 - Int.toNat q.fAt) (List.drop (Int.toNat q.fAt) r1.2.fS))), rS ([] : Str), rI .i64 0]]) (xs := [.tmp 99]) Tryz.underlying23 Tryz.sizeOf63 Tryz.zeroValue63 rfl rfl rfl ⟨Cel.agg ⟨Up.refl _, Up.refl _, Up.refl _, Up.refl _, trivial⟩, trivial⟩ rfl eTApiCell_len rfl rfl rfl (fun b118 => ?_)
   obtain ⟨g120, h121⟩ := chk_e h116
   obtain ⟨inf, hinf⟩ := info63
   refine w_append (xs := r1.2.fCells) (ys := ([(TApiCell.mk 3 (parseV (List.take (Int.toNat x85 - Int.toNat q.fAt) (List.drop (Int.toNat q.fAt) r1.2.fS))) ([] : Str) 0)] : List TApiCell)) (enc := eTApiCell) (i := 2) Tryz.underlying23 hinf.1 hinf.2.1 hinf.2.2.1 hinf.2.2.2 rfl rfl rfl rfl rfl (Src.w (i := 0) rfl rfl) eTApiCell_len eTApiCell_one g120 rfl (fun v119 => ?_)
   refine wv (o_nilcheck rfl) ?_
   refine wv (o_fieldAddr Tryz.underlying57 rfl Tryz.sizeOf23 rfl rfl) ?_
   refine u_store (i := 2) Tryz.sizeOf23 rfl rfl (one_row (i := 0) rfl) rfl rfl (cs' := [rS r1.2.fS, rI .i64 x85, rv v119, rB (r1.2.fGreat || (!decide ((parseE (List.take (Int.toNat x85 - Int.toNat q.fAt) (List.drop (Int.toNat q.fAt) r1.2.fS))) = 0)))]) rfl (H' := [.row v119 63 4 (List.map eTApiCell (r1.2.fCells ++ ([(TApiCell.mk 3 (parseV (List.take (Int.toNat x85 - Int.toNat q.fAt) (List.drop (Int.toNat q.fAt) r1.2.fS))) ([] : Str) 0)] : List TApiCell))), .row (.slice (some ⟨b118, 0, none⟩) 1 1) 63 4 (List.map eTApiCell ([(TApiCell.mk 3 (parseV (List.take (Int.toNat x85 - Int.toNat q.fAt) (List.drop (Int.toNat q.fAt) r1.2.fS))) ([] : Str) 0)] : List TApiCell)), .blk b_q [rS r1.2.fS, rI .i64 x85, rv v119, rB (r1.2.fGreat || (!decide ((parseE (List.take (Int.toNat x85 - Int.toNat q.fAt) (List.drop (Int.toNat q.fAt) r1.2.fS))) = 0)))] 57]) rfl ?_
   refine wl_y ?_
   refine wv (r := rB true) (o_assign rfl) ?_
   refine wl_x ?_
   refine wc_ret ?_
   refine wk_perm (H2 := [.blk b_q [rS r1.2.fS, rI .i64 x85, rv v119, rB (r1.2.fGreat || (!decide ((parseE (List.take (Int.toNat x85 - Int.toNat q.fAt) (List.drop (Int.toNat q.fAt) r1.2.fS))) = 0)))] 57, .row v119 63 4 (List.map eTApiCell (r1.2.fCells ++ ([(TApiCell.mk 3 (parseV (List.take (Int.toNat x85 - Int.toNat q.fAt) (List.drop (Int.toNat q.fAt) r1.2.fS))) ([] : Str) 0)] : List TApiCell))), .row (.slice (some ⟨b118, 0, none⟩) 1 1) 63 4 (List.map eTApiCell ([(TApiCell.mk 3 (parseV (List.take (Int.toNat x85 - Int.toNat q.fAt) (List.drop (Int.toNat q.fAt) r1.2.fS))) ([] : Str) 0)] : List TApiCell))]) ((perm_front (i := 2) rfl).trans (List.Perm.cons _ (List.Perm.refl _))) ?_
   obtain rfl := some_e h121
   exact wk_ret (r_1 Tryz.results95 (rv_t rfl)) (sC (sC (sS sN))) ⟨v119, rfl, rfl⟩

theorem vRScalar_w (F : Nat) (b_q : Nat) (v_q_2 : Value) (q : TValueReader) (r : Bool × TValueReader) (h : vRScalar F q = some r) : Fn Tryz.prog GE 65 [rv (.pointer (some ⟨b_q, 0, none⟩))] [.blk b_q [rS q.fS, rI .i64 q.fAt, rv v_q_2, rB q.fGreat] 57, .row v_q_2 63 4 (List.map eTApiCell q.fCells)] (fun R H => ∃ w0_2 : Value, R = rB r.1 ∧ H = [.blk b_q [rS r.2.fS, rI .i64 r.2.fAt, rv w0_2, rB r.2.fGreat] 57, .row w0_2 63 4 (List.map eTApiCell r.2.fCells)]) := by
 refine enter (n := 75) Tryz.func65 rfl Tryz.ntmps65 rfl (fun w Z => ?_)
 refine wc_as (l' := [(0, rv (.pointer (some ⟨b_q, 0, none⟩)))]) (H' := [.blk b_q [rS q.fS, rI .i64 q.fAt, rv v_q_2, rB q.fGreat] 57, .row v_q_2 63 4 (List.map eTApiCell q.fCells)]) rfl rfl ?_
 unfold vRScalar at h
 refine wc_sr ?_
 refine wv (r := rB false) (o_assign rfl) ?_
 refine wl_x ?_
 refine wc_seq_cut (S := (Str × Int × (List TApiCell) × Bool) × (Value)) (fun σ => vRScalar_j1 σ.1.1 σ.1.2.1 σ.1.2.2.1 σ.1.2.2.2 = some r) (fun σ => []) (fun σ => [.blk b_q [rS σ.1.1, rI .i64 σ.1.2.1, rv σ.2, rB σ.1.2.2.2] 57, .row σ.2 63 4 (List.map eTApiCell σ.1.2.2.1)]) ?_ ?_
 ·refine wc_block ?_
  refine wc_sr ?_
  refine wm rfl ?_
  obtain ⟨r62, e64, h63⟩ := obn_e h
  refine wcl (Hr := []) Tryz.call64 (vTake_w b_q v_q_2 q ([110, 117, 108, 108] : Str) r62 e64) rfl (List.Perm.refl _) rfl ?_
  rintro _ _ ⟨v65, rfl, rfl⟩
  refine wa rfl ?_
  refine wl_x ?_
  refine wc_cond (b := r62.1) rfl (fun c66 => ?_) (fun c66 => ?_)
  ·have h67 := cnd_t c66 h63
   refine wc_region ?_
   refine wm rfl ?_
   refine wm rfl ?_
   refine wv (o_nilcheck rfl) ?_
   refine wv (o_fieldAddr Tryz.underlying57 rfl Tryz.sizeOf23 rfl rfl) ?_
   refine wv (o_load (i := 0) Tryz.isAgg23 rfl rfl rfl) ?_
   refine wv (r := rAgg [rI .i64 1, rI .i64 0, rS ([] : Str), rI .i64 0]) (o_build63_0 rfl rfl) ?_
   refine w_buildSlice (ys := ([(TApiCell.mk 1 0 ([] : Str) 0)] : List TApiCell)) (enc := eTApiCell) (css := [[rI .i64 1, rI .i64 0, rS ([] : Str), rI .i64 0]]) (xs := [.tmp 15]) Tryz.underlying23 Tryz.sizeOf63 Tryz.zeroValue63 rfl rfl rfl ⟨Cel.agg ⟨Up.refl _, Up.refl _, Up.refl _, Up.refl _, trivial⟩, trivial⟩ rfl eTApiCell_len rfl rfl rfl (fun b68 => ?_)
   obtain ⟨g70, h71⟩ := chk_e h67
   obtain ⟨inf, hinf⟩ := info63
   refine w_append (xs := r62.2.fCells) (ys := ([(TApiCell.mk 1 0 ([] : Str) 0)] : List TApiCell)) (enc := eTApiCell) (i := 2) Tryz.underlying23 hinf.1 hinf.2.1 hinf.2.2.1 hinf.2.2.2 rfl rfl rfl rfl rfl (Src.w (i := 0) rfl rfl) eTApiCell_len eTApiCell_one g70 rfl (fun v69 => ?_)
   refine wv (o_nilcheck rfl) ?_
   refine wv (o_fieldAddr Tryz.underlying57 rfl Tryz.sizeOf23 rfl rfl) ?_
   refine u_store (i := 2) Tryz.sizeOf23 rfl rfl (one_row (i := 0) rfl) rfl rfl (cs' := [rS r62.2.fS, rI .i64 r62.2.fAt, rv v69, rB r62.2.fGreat]) rfl (H' := [.row v69 63 4 (List.map eTApiCell (r62.2.fCells ++ ([(TApiCell.mk 1 0 ([] : Str) 0)] : List TApiCell))), .row (.slice (some ⟨b68, 0, none⟩) 1 1) 63 4 (List.map eTApiCell ([(TApiCell.mk 1 0 ([] : Str) 0)] : List TApiCell)), .blk b_q [rS r62.2.fS, rI .i64 r62.2.fAt, rv v69, rB r62.2.fGreat] 57]) rfl ?_
   refine wl_nil ?_
   refine wk_in_norm ?_
   refine wk_perm (H2 := [.blk b_q [rS r62.2.fS, rI .i64 r62.2.fAt, rv v69, rB r62.2.fGreat] 57, .row v69 63 4 (List.map eTApiCell (r62.2.fCells ++ ([(TApiCell.mk 1 0 ([] : Str) 0)] : List TApiCell))), .row (.slice (some ⟨b68, 0, none⟩) 1 1) 63 4 (List.map eTApiCell ([(TApiCell.mk 1 0 ([] : Str) 0)] : List TApiCell))]) ((perm_front (i := 2) rfl).trans (List.Perm.cons _ (List.Perm.refl _))) ?_
   exact wk_then (wk_some ((r62.2.fS, r62.2.fAt, r62.2.fCells ++ ([(TApiCell.mk 1 0 ([] : Str) 0)] : List TApiCell), r62.2.fGreat), v69) h71 Sub.nil (sC (sC (sS sN))))
  ·have h72 := cnd_f c66 h63
   refine wc_sr ?_
   refine wm rfl ?_
   obtain ⟨r73, e75, h74⟩ := obn_e h72
   refine wcl (Hr := []) Tryz.call64 (vTake_w b_q v65 r62.2 ([116, 114, 117, 101] : Str) r73 e75) rfl (List.Perm.refl _) rfl ?_
   rintro _ _ ⟨v76, rfl, rfl⟩
   refine wa rfl ?_
   refine wl_x ?_
   refine wc_cond (b := r73.1) rfl (fun c77 => ?_) (fun c77 => ?_)
   ·have h78 := cnd_t c77 h74
    refine wc_region ?_
    refine wm rfl ?_
    refine wm rfl ?_
    refine wv (o_nilcheck rfl) ?_
    refine wv (o_fieldAddr Tryz.underlying57 rfl Tryz.sizeOf23 rfl rfl) ?_
    refine wv (o_load (i := 0) Tryz.isAgg23 rfl rfl rfl) ?_
    refine wv (r := rAgg [rI .i64 2, rI .i64 1, rS ([] : Str), rI .i64 0]) (o_build63_0_1 rfl rfl rfl rfl) ?_
    refine w_buildSlice (ys := ([(TApiCell.mk 2 1 ([] : Str) 0)] : List TApiCell)) (enc := eTApiCell) (css := [[rI .i64 2, rI .i64 1, rS ([] : Str), rI .i64 0]]) (xs := [.tmp 28]) Tryz.underlying23 Tryz.sizeOf63 Tryz.zeroValue63 rfl rfl rfl ⟨Cel.agg ⟨Up.refl _, Up.refl _, Up.refl _, Up.refl _, trivial⟩, trivial⟩ rfl eTApiCell_len rfl rfl rfl (fun b79 => ?_)
    obtain ⟨g81, h82⟩ := chk_e h78
    obtain ⟨inf, hinf⟩ := info63
    refine w_append (xs := r73.2.fCells) (ys := ([(TApiCell.mk 2 1 ([] : Str) 0)] : List TApiCell)) (enc := eTApiCell) (i := 2) Tryz.underlying23 hinf.1 hinf.2.1 hinf.2.2.1 hinf.2.2.2 rfl rfl rfl rfl rfl (Src.w (i := 0) rfl rfl) eTApiCell_len eTApiCell_one g81 rfl (fun v80 => ?_)
    refine wv (o_nilcheck rfl) ?_
    refine wv (o_fieldAddr Tryz.underlying57 rfl Tryz.sizeOf23 rfl rfl) ?_
    refine u_store (i := 2) Tryz.sizeOf23 rfl rfl (one_row (i := 0) rfl) rfl rfl (cs' := [rS r73.2.fS, rI .i64 r73.2.fAt, rv v80, rB r73.2.fGreat]) rfl (H' := [.row v80 63 4 (List.map eTApiCell (r73.2.fCells ++ ([(TApiCell.mk 2 1 ([] : Str) 0)] : List TApiCell))), .row (.slice (some ⟨b79, 0, none⟩) 1 1) 63 4 (List.map eTApiCell ([(TApiCell.mk 2 1 ([] : Str) 0)] : List TApiCell)), .blk b_q [rS r73.2.fS, rI .i64 r73.2.fAt, rv v80, rB r73.2.fGreat] 57]) rfl ?_
    refine wl_nil ?_
    refine wk_in_norm ?_
    refine wk_perm (H2 := [.blk b_q [rS r73.2.fS, rI .i64 r73.2.fAt, rv v80, rB r73.2.fGreat] 57, .row v80 63 4 (List.map eTApiCell (r73.2.fCells ++ ([(TApiCell.mk 2 1 ([] : Str) 0)] : List TApiCell))), .row (.slice (some ⟨b79, 0, none⟩) 1 1) 63 4 (List.map eTApiCell ([(TApiCell.mk 2 1 ([] : Str) 0)] : List TApiCell))]) ((perm_front (i := 2) rfl).trans (List.Perm.cons _ (List.Perm.refl _))) ?_
    exact wk_then (wk_some ((r73.2.fS, r73.2.fAt, r73.2.fCells ++ ([(TApiCell.mk 2 1 ([] : Str) 0)] : List TApiCell), r73.2.fGreat), v80) h82 Sub.nil (sC (sC (sS sN))))
   ·have h83 := cnd_f c77 h74
    refine wc_sr ?_
    refine wm rfl ?_
    obtain ⟨r84, e86, h85⟩ := obn_e h83
    refine wcl (Hr := []) Tryz.call64 (vTake_w b_q v76 r73.2 ([102, 97, 108, 115, 101] : Str) r84 e86) rfl (List.Perm.refl _) rfl ?_
    rintro _ _ ⟨v87, rfl, rfl⟩
    refine wa rfl ?_
    refine wl_x ?_
    refine wc_cond (b := r84.1) rfl (fun c88 => ?_) (fun c88 => ?_)
    ·have h89 := cnd_t c88 h85
     refine wc_region ?_
     refine wm rfl ?_
     refine wm rfl ?_
     refine wv (o_nilcheck rfl) ?_
     refine wv (o_fieldAddr Tryz.underlying57 rfl Tryz.sizeOf23 rfl rfl) ?_
     refine wv (o_load (i := 0) Tryz.isAgg23 rfl rfl rfl) ?_
     refine wv (r := rAgg [rI .i64 2, rI .i64 0, rS ([] : Str), rI .i64 0]) (o_build63_0 rfl rfl) ?_
     refine w_buildSlice (ys := ([(TApiCell.mk 2 0 ([] : Str) 0)] : List TApiCell)) (enc := eTApiCell) (css := [[rI .i64 2, rI .i64 0, rS ([] : Str), rI .i64 0]]) (xs := [.tmp 41]) Tryz.underlying23 Tryz.sizeOf63 Tryz.zeroValue63 rfl rfl rfl ⟨Cel.agg ⟨Up.refl _, Up.refl _, Up.refl _, Up.refl _, trivial⟩, trivial⟩ rfl eTApiCell_len rfl rfl rfl (fun b90 => ?_)
     obtain ⟨g92, h93⟩ := chk_e h89
     obtain ⟨inf, hinf⟩ := info63
     refine w_append (xs := r84.2.fCells) (ys := ([(TApiCell.mk 2 0 ([] : Str) 0)] : List TApiCell)) (enc := eTApiCell) (i := 2) Tryz.underlying23 hinf.1 hinf.2.1 hinf.2.2.1 hinf.2.2.2 rfl rfl rfl rfl rfl (Src.w (i := 0) rfl rfl) eTApiCell_len eTApiCell_one g92 rfl (fun v91 => ?_)
     refine wv (o_nilcheck rfl) ?_
     refine wv (o_fieldAddr Tryz.underlying57 rfl Tryz.sizeOf23 rfl rfl) ?_
     refine u_store (i := 2) Tryz.sizeOf23 rfl rfl (one_row (i := 0) rfl) rfl rfl (cs' := [rS r84.2.fS, rI .i64 r84.2.fAt, rv v91, rB r84.2.fGreat]) rfl (H' := [.row v91 63 4 (List.map eTApiCell (r84.2.fCells ++ ([(TApiCell.mk 2 0 ([] : Str) 0)] : List TApiCell))), .row (.slice (some ⟨b90, 0, none⟩) 1 1) 63 4 (List.map eTApiCell ([(TApiCell.mk 2 0 ([] : Str) 0)] : List TApiCell)), .blk b_q [rS r84.2.fS, rI .i64 r84.2.fAt, rv v91, rB r84.2.fGreat] 57]) rfl ?_
     refine wl_nil ?_
     refine wk_in_norm ?_
     refine wk_perm (H2 := [.blk b_q [rS r84.2.fS, rI .i64 r84.2.fAt, rv v91, rB r84.2.fGreat] 57, .row v91 63 4 (List.map eTApiCell (r84.2.fCells ++ ([(TApiCell.mk 2 0 ([] : Str) 0)] : List TApiCell))), .row (.slice (some ⟨b90, 0, none⟩) 1 1) 63 4 (List.map eTApiCell ([(TApiCell.mk 2 0 ([] : Str) 0)] : List TApiCell))]) ((perm_front (i := 2) rfl).trans (List.Perm.cons _ (List.Perm.refl _))) ?_
     exact wk_then (wk_some ((r84.2.fS, r84.2.fAt, r84.2.fCells ++ ([(TApiCell.mk 2 0 ([] : Str) 0)] : List TApiCell), r84.2.fGreat), v91) h93 Sub.nil (sC (sC (sS sN))))
    ·have h94 := cnd_f c88 h85
     refine wc_seq ?_
     obtain ⟨g95, h96⟩ := chk_e h94
     obtain ⟨r97, e99, h98⟩ := obn_e h96
     refine wc_rdq [0] [⟨[], rv (.pointer (some ⟨b_q, 0, none⟩)), 0⟩, ⟨[0], rv (.pointer (some ⟨b_q, 0, none⟩)), 0⟩, ⟨[1], rv (.pointer (some ⟨b_q, 0, none⟩)), 0⟩, ⟨[2], rS r84.2.fS, 1⟩, ⟨[], rv (.pointer (some ⟨b_q, 0, none⟩)), 0⟩, ⟨[4], rv (.pointer (some ⟨b_q, 0, none⟩)), 0⟩, ⟨[5], rv (.pointer (some ⟨b_q, 1, none⟩)), 0⟩, ⟨[6], rI .i64 r84.2.fAt, 1⟩, ⟨[3, 7], rS (List.drop (Int.toNat r84.2.fAt) r84.2.fS), 0⟩, ⟨[8], rB r97, 0⟩, ⟨[9], rB r97, 0⟩] [46, 0] ?_ ?_
     ·refine oq (o_move rfl) ?_
      refine oq (o_nilcheck rfl) ?_
      refine oq (o_fieldAddr Tryz.underlying57 rfl Tryz.sizeOf9 rfl rfl) ?_
      refine of (o_load (i := 0) Tryz.isAgg9 rfl rfl rfl) ?_
      refine oq (o_move rfl) ?_
      refine oq (o_nilcheck rfl) ?_
      refine oq (o_fieldAddr Tryz.underlying57 rfl Tryz.sizeOf3 rfl rfl) ?_
      refine of (o_load (i := 0) Tryz.isAgg3 rfl rfl rfl) ?_
      refine oq (o_slice_lo Tryz.underlying9 rfl rfl g95) ?_
      refine obl_q rfl (fun H => ok_c0 Tryz.call94 (hasPrefix_w (List.drop (Int.toNat r84.2.fAt) r84.2.fS) ([34] : Str) r97 e99) rfl) ?_
      refine oq (o_assign rfl) ?_
      exact obl_e
     refine wk_x ?_
     refine wc_cond (b := r97) rfl (fun c100 => ?_) (fun c100 => ?_)
     ·have h101 := cnd_t c100 h98
      refine wc_sr ?_
      refine wm rfl ?_
      obtain ⟨r102, e104, h103⟩ := obn_e h101
      refine wcl (Hr := []) Tryz.call66 (vRStr_w F b_q v87 r84.2 r102 e104) rfl (List.Perm.refl _) rfl ?_
      rintro _ _ ⟨v105, rfl, rfl⟩
      refine wm rfl ?_
      refine wv (o_extract rfl rfl) ?_
      refine wv (o_extract rfl rfl) ?_
      refine wa rfl ?_
      refine wa rfl ?_
      refine wl_x ?_
      refine wc_seq ?_
      refine wc_sr ?_
      refine wm rfl ?_
      refine wv (o_not rfl) ?_
      refine wl_x ?_
      refine wc_cond (b := !r102.2.1) rfl (fun c106 => ?_) (fun c106 => ?_)
      ·have h107 := cnd_t c106 h103
       refine wc_sr ?_
       refine wv (r := rB false) (o_assign rfl) ?_
       refine wl_x ?_
       refine wc_ret ?_
       refine wk_then_ret ?_
       refine wk_in_ret ?_
       refine wk_then_ret ?_
       obtain rfl := some_e h107
       exact wk_ret (r_1 Tryz.results65 (rv_t rfl)) (sC (sC sN)) ⟨v105, rfl, rfl⟩
      ·have h108 := cnd_f c106 h103
       refine wc_skip ?_
       refine wk_x ?_
       refine wc_region ?_
       refine wm rfl ?_
       refine wm rfl ?_
       refine wv (o_nilcheck rfl) ?_
       refine wv (o_fieldAddr Tryz.underlying57 rfl Tryz.sizeOf23 rfl rfl) ?_
       refine wv (o_load (i := 0) Tryz.isAgg23 rfl rfl rfl) ?_
       refine wm rfl ?_
       refine wv (r := rAgg [rI .i64 4, rI .i64 0, rS r102.1, rI .i64 0]) (o_build63_0_2 rfl rfl rfl rfl) ?_
       refine w_buildSlice (ys := ([(TApiCell.mk 4 0 r102.1 0)] : List TApiCell)) (enc := eTApiCell) (css := [[rI .i64 4, rI .i64 0, rS r102.1, rI .i64 0]]) (xs := [.tmp 70]) Tryz.underlying23 Tryz.sizeOf63 Tryz.zeroValue63 rfl rfl rfl ⟨Cel.agg ⟨Up.refl _, Up.refl _, Up.refl _, Up.refl _, trivial⟩, trivial⟩ rfl eTApiCell_len rfl rfl rfl (fun b109 => ?_)
       obtain ⟨g111, h112⟩ := chk_e h108
       obtain ⟨inf, hinf⟩ := info63
       refine w_append (xs := r102.2.2.fCells) (ys := ([(TApiCell.mk 4 0 r102.1 0)] : List TApiCell)) (enc := eTApiCell) (i := 2) Tryz.underlying23 hinf.1 hinf.2.1 hinf.2.2.1 hinf.2.2.2 rfl rfl rfl rfl rfl (Src.w (i := 0) rfl rfl) eTApiCell_len eTApiCell_one g111 rfl (fun v110 => ?_)
       refine wv (o_nilcheck rfl) ?_
       refine wv (o_fieldAddr Tryz.underlying57 rfl Tryz.sizeOf23 rfl rfl) ?_
       refine u_store (i := 2) Tryz.sizeOf23 rfl rfl (one_row (i := 0) rfl) rfl rfl (cs' := [rS r102.2.2.fS, rI .i64 r102.2.2.fAt, rv v110, rB r102.2.2.fGreat]) rfl (H' := [.row v110 63 4 (List.map eTApiCell (r102.2.2.fCells ++ ([(TApiCell.mk 4 0 r102.1 0)] : List TApiCell))), .row (.slice (some ⟨b109, 0, none⟩) 1 1) 63 4 (List.map eTApiCell ([(TApiCell.mk 4 0 r102.1 0)] : List TApiCell)), .blk b_q [rS r102.2.2.fS, rI .i64 r102.2.2.fAt, rv v110, rB r102.2.2.fGreat] 57]) rfl ?_
       refine wl_nil ?_
       refine wk_in_norm ?_
       refine wk_perm (H2 := [.blk b_q [rS r102.2.2.fS, rI .i64 r102.2.2.fAt, rv v110, rB r102.2.2.fGreat] 57, .row v110 63 4 (List.map eTApiCell (r102.2.2.fCells ++ ([(TApiCell.mk 4 0 r102.1 0)] : List TApiCell))), .row (.slice (some ⟨b109, 0, none⟩) 1 1) 63 4 (List.map eTApiCell ([(TApiCell.mk 4 0 r102.1 0)] : List TApiCell))]) ((perm_front (i := 2) rfl).trans (List.Perm.cons _ (List.Perm.refl _))) ?_
       exact wk_then (wk_some ((r102.2.2.fS, r102.2.2.fAt, r102.2.2.fCells ++ ([(TApiCell.mk 4 0 r102.1 0)] : List TApiCell), r102.2.2.fGreat), v110) h112 Sub.nil (sC (sC (sS sN))))
     ·have h113 := cnd_f c100 h98
      refine wc_sr ?_
      refine wm rfl ?_
      obtain ⟨r114, e116, h115⟩ := obn_e h113
      refine wcl (Hr := []) Tryz.call95 (vRInt_w F b_q v87 r84.2 r114 e116) rfl (List.Perm.refl _) rfl ?_
      rintro _ _ ⟨v117, rfl, rfl⟩
      refine wa rfl ?_
      refine wl_x ?_
      refine wc_ret ?_
      refine wk_in_ret ?_
      refine wk_then_ret ?_
      obtain rfl := some_e h115
      exact wk_ret (r_1 Tryz.results65 (rv_t rfl)) (sC (sC sN)) ⟨v117, rfl, rfl⟩
 ·rintro ⟨⟨x57, x58, x59, x61⟩, v60⟩ h118
  refine wc_as (l' := []) (H' := [.blk b_q [rS x57, rI .i64 x58, rv v60, rB x61] 57, .row v60 63 4 (List.map eTApiCell x59)]) rfl rfl ?_
  replace h118 : vRScalar_j1 x57 x58 x59 x61 = some r := h118
  unfold vRScalar_j1 at h118
  refine wc_sr ?_
  refine wv (r := rB true) (o_assign rfl) ?_
  refine wl_x ?_
  refine wc_ret ?_
  obtain rfl := some_e h118
  exact wk_ret (r_1 Tryz.results65 (rv_t rfl)) (sC (sC sN)) ⟨v60, rfl, rfl⟩

theorem vRValuem_w (F : Nat) (rec_vRValue : TValueReader → Option (Bool × TValueReader)) (ih_vRValue : (∀ (b_q : Nat) (v_q_2 : Value) (q : TValueReader) (r : Bool × TValueReader), rec_vRValue q = some r → Fn Tryz.prog GE 44 [rv (.pointer (some ⟨b_q, 0, none⟩))] [.blk b_q [rS q.fS, rI .i64 q.fAt, rv v_q_2, rB q.fGreat] 57, .row v_q_2 63 4 (List.map eTApiCell q.fCells)] (fun R H => ∃ w0_2 : Value, R = rB r.1 ∧ H = [.blk b_q [rS r.2.fS, rI .i64 r.2.fAt, rv w0_2, rB r.2.fGreat] 57, .row w0_2 63 4 (List.map eTApiCell r.2.fCells)]))) (b_q : Nat) (v_q_2 : Value) (q : TValueReader) (r : Bool × TValueReader) (h : vRValuem F rec_vRValue q = some r) : Fn Tryz.prog GE 44 [rv (.pointer (some ⟨b_q, 0, none⟩))] [.blk b_q [rS q.fS, rI .i64 q.fAt, rv v_q_2, rB q.fGreat] 57, .row v_q_2 63 4 (List.map eTApiCell q.fCells)] (fun R H => ∃ w0_2 : Value, R = rB r.1 ∧ H = [.blk b_q [rS r.2.fS, rI .i64 r.2.fAt, rv w0_2, rB r.2.fGreat] 57, .row w0_2 63 4 (List.map eTApiCell r.2.fCells)]) := by
 refine enter (n := 96) Tryz.func44 rfl Tryz.ntmps44 rfl (fun w Z => ?_)
 refine wc_as (l' := [(0, rv (.pointer (some ⟨b_q, 0, none⟩)))]) (H' := [.blk b_q [rS q.fS, rI .i64 q.fAt, rv v_q_2, rB q.fGreat] 57, .row v_q_2 63 4 (List.map eTApiCell q.fCells)]) rfl rfl ?_
 unfold vRValuem at h
 refine wc_sr ?_
 refine wv (r := rB false) (o_assign rfl) ?_
 refine wl_y ?_
 refine wm rfl ?_
 obtain ⟨r1, e3, h2⟩ := obn_e h
 refine wcl (Hr := []) Tryz.call64 (vTake_w b_q v_q_2 q ([91] : Str) r1 e3) rfl (List.Perm.refl _) rfl ?_
 rintro _ _ ⟨v4, rfl, rfl⟩
 refine wa rfl ?_
 refine wl_x ?_
 refine wc_seq ?_
 refine wc_seq_cut (S := (Bool × Str × Int × (List TApiCell) × Bool) × (Value)) (fun σ => vRValue_j1 F rec_vRValue r1 σ.1.1 σ.1.2.1 σ.1.2.2.1 σ.1.2.2.2.1 σ.1.2.2.2.2 = some r) (fun σ => [(0, rv (.pointer (some ⟨b_q, 0, none⟩))), (2, rB false), (3, rB r1.1), (19, rB σ.1.1)]) (fun σ => [.blk b_q [rS σ.1.2.1, rI .i64 σ.1.2.2.1, rv σ.2, rB σ.1.2.2.2.2] 57, .row σ.2 63 4 (List.map eTApiCell σ.1.2.2.2.1)]) ?_ ?_
 ·refine wc_region ?_
  refine wm rfl ?_
  refine wv (o_not rfl) ?_
  refine wm rfl ?_
  refine bsplit (!r1.1) (fun c19 => ?_) (fun c19 => ?_)
  ·have h20 := cnd_t c19 h2
   refine wo c19 ?_
   refine wm rfl ?_
   refine wo c19 ?_
   obtain ⟨r21, e23, h22⟩ := obn_e h20
   refine wcl (Hr := []) Tryz.call64 (vTake_w b_q v4 r1.2 ([123] : Str) r21 e23) rfl (List.Perm.refl _) rfl ?_
   rintro _ _ ⟨v24, rfl, rfl⟩
   refine wo c19 ?_
   refine wv (o_not rfl) ?_
   refine wpt rfl c19 rfl ?_
   refine wl_nil ?_
   exact wk_then (wk_some ((!r21.1, r21.2.fS, r21.2.fAt, r21.2.fCells, r21.2.fGreat), v24) h22 (Sub.c rfl (Sub.c rfl (Sub.c rfl (Sub.c rfl Sub.nil)))) (sC (sC sN)))
  ·have h25 := cnd_f c19 h2
   refine wf c19 ?_
   refine wf c19 ?_
   refine wf c19 ?_
   refine wv (r := rB false) (o_pick_f (b := !r1.1) rfl c19 rfl) ?_
   refine wl_nil ?_
   exact wk_then (wk_some ((false, r1.2.fS, r1.2.fAt, r1.2.fCells, r1.2.fGreat), v4) h25 (Sub.c rfl (Sub.c rfl (Sub.c rfl (Sub.c rfl Sub.nil)))) (sC (sC sN)))
 ·rintro ⟨⟨x13, x14, x15, x16, x18⟩, v17⟩ h26
  refine wc_as (l' := [(0, rv (.pointer (some ⟨b_q, 0, none⟩))), (2, rB false), (3, rB r1.1), (19, rB x13)]) (H' := [.blk b_q [rS x14, rI .i64 x15, rv v17, rB x18] 57, .row v17 63 4 (List.map eTApiCell x16)]) rfl rfl ?_
  replace h26 : vRValue_j1 F rec_vRValue r1 x13 x14 x15 x16 x18 = some r := h26
  unfold vRValue_j1 at h26
  refine wc_cond (b := x13) rfl (fun c27 => ?_) (fun c27 => ?_)
  ·have h28 := cnd_t c27 h26
   refine wc_sr ?_
   refine wm rfl ?_
   obtain ⟨r29, e31, h30⟩ := obn_e h28
   refine wcl (Hr := []) Tryz.call65 (vRScalar_w F b_q v17 (TValueReader.mk x14 x15 x16 x18) r29 e31) rfl (List.Perm.refl _) rfl ?_
   rintro _ _ ⟨v32, rfl, rfl⟩
   refine wa rfl ?_
   refine wl_x ?_
   refine wc_ret ?_
   refine wk_then_ret ?_
   obtain rfl := some_e h30
   exact wk_ret (r_1 Tryz.results44 (rv_t rfl)) (sC (sC sN)) ⟨v32, rfl, rfl⟩
  ·have h33 := cnd_f c27 h26
   refine wc_skip ?_
   refine wk_x ?_
   refine wc_sr ?_
   refine wv (r := rI .i64 6) (o_assign rfl) ?_
   refine wv (r := rS ([125] : Str)) (o_assign rfl) ?_
   refine wl_x ?_
   refine wc_seq ?_
   refine wc_sr ?_
   refine wm rfl ?_
   refine wl_x ?_
   refine wc_cond (b := r1.1) rfl (fun c34 => ?_) (fun c34 => ?_)
   ·have h35 := cnd_t c34 h33
    refine wc_region ?_
    refine wv (r := rI .i64 5) (o_assign rfl) ?_
    refine wv (r := rS ([93] : Str)) (o_assign rfl) ?_
    refine wl_y ?_
    refine wm rfl ?_
    refine wv (o_nilcheck rfl) ?_
    refine wv (o_fieldAddr Tryz.underlying57 rfl Tryz.sizeOf23 rfl rfl) ?_
    refine wv (o_load (i := 0) Tryz.isAgg23 rfl rfl rfl) ?_
    refine wv (o_len_wt (ys := x16) (enc := eTApiCell) (i := 1) Tryz.underlying23 rfl rfl) ?_
    refine wa rfl ?_
    refine wl_y ?_
    refine wm rfl ?_
    refine wm rfl ?_
    refine wv (o_nilcheck rfl) ?_
    refine wv (o_fieldAddr Tryz.underlying57 rfl Tryz.sizeOf23 rfl rfl) ?_
    refine wv (o_load (i := 0) Tryz.isAgg23 rfl rfl rfl) ?_
    refine wm rfl ?_
    refine wv (r := rAgg [rI .i64 5, rI .i64 0, rS ([] : Str), rI .i64 0]) (o_build63_0 rfl rfl) ?_
    refine w_buildSlice (ys := ([(TApiCell.mk 5 0 ([] : Str) 0)] : List TApiCell)) (enc := eTApiCell) (css := [[rI .i64 5, rI .i64 0, rS ([] : Str), rI .i64 0]]) (xs := [.tmp 34]) Tryz.underlying23 Tryz.sizeOf63 Tryz.zeroValue63 rfl rfl rfl ⟨Cel.agg ⟨Up.refl _, Up.refl _, Up.refl _, Up.refl _, trivial⟩, trivial⟩ rfl eTApiCell_len rfl rfl rfl (fun b36 => ?_)
    obtain ⟨g38, h39⟩ := chk_e h35
    obtain ⟨inf, hinf⟩ := info63
    refine w_append (xs := x16) (ys := ([(TApiCell.mk 5 0 ([] : Str) 0)] : List TApiCell)) (enc := eTApiCell) (i := 2) Tryz.underlying23 hinf.1 hinf.2.1 hinf.2.2.1 hinf.2.2.2 rfl rfl rfl rfl rfl (Src.w (i := 0) rfl rfl) eTApiCell_len eTApiCell_one g38 rfl (fun v37 => ?_)
    refine wv (o_nilcheck rfl) ?_
    refine wv (o_fieldAddr Tryz.underlying57 rfl Tryz.sizeOf23 rfl rfl) ?_
    refine u_store (i := 2) Tryz.sizeOf23 rfl rfl (one_row (i := 0) rfl) rfl rfl (cs' := [rS x14, rI .i64 x15, rv v37, rB x18]) rfl (H' := [.row v37 63 4 (List.map eTApiCell (x16 ++ ([(TApiCell.mk 5 0 ([] : Str) 0)] : List TApiCell))), .row (.slice (some ⟨b36, 0, none⟩) 1 1) 63 4 (List.map eTApiCell ([(TApiCell.mk 5 0 ([] : Str) 0)] : List TApiCell)), .blk b_q [rS x14, rI .i64 x15, rv v37, rB x18] 57]) rfl ?_
    refine wl_x ?_
    refine wc_seq ?_
    refine wc_sr ?_
    refine wm rfl ?_
    refine wm rfl ?_
    obtain ⟨r40, e42, h41⟩ := obn_e h39
    refine wcl (Hr := [.row (.slice (some ⟨b36, 0, none⟩) 1 1) 63 4 (List.map eTApiCell ([(TApiCell.mk 5 0 ([] : Str) 0)] : List TApiCell))]) Tryz.call64 (vTake_w b_q v37 (TValueReader.mk x14 x15 (x16 ++ ([(TApiCell.mk 5 0 ([] : Str) 0)] : List TApiCell)) x18) ([93] : Str) r40 e42) rfl ((perm_front (i := 2) rfl).trans (List.Perm.cons _ (List.Perm.refl _))) rfl ?_
    rintro _ _ ⟨v43, rfl, rfl⟩
    refine wl_x ?_
    refine wc_cond (b := r40.1) rfl (fun c44 => ?_) (fun c44 => ?_)
    ·have h45 := cnd_t c44 h41
     refine wc_sr ?_
     refine wv (r := rB true) (o_assign rfl) ?_
     refine wl_x ?_
     refine wc_ret ?_
     refine wk_then_ret ?_
     obtain rfl := some_e h45
     exact wk_ret (r_1 Tryz.results44 (rv_t rfl)) (sC (sC (sS sN))) ⟨v43, rfl, rfl⟩
    ·have h46 := cnd_f c44 h41
     refine wc_skip ?_
     refine wk_x ?_
     refine wc_sr ?_
     refine wv (r := rS ([] : Str)) (o_assign rfl) ?_
     refine wl_y ?_
     refine wv (r := rI .i64 1) (o_assign rfl) ?_
     refine wl_x ?_
     refine wc_block ?_
     obtain ⟨o141, eo142, hK143⟩ := obn_e h46
     refine wc_loop2 (S := Nat × (Int × Str × Int × (List TApiCell) × Bool) × (Value)) (V := (Unit) × (Unit)) 0 (fun σ => lop (fun σ => vRValue_b2 rec_vRValue x16 σ.1 σ.2.1 σ.2.2.1 σ.2.2.2.1 σ.2.2.2.2) σ.1 σ.2.1 = some o141) (fun σ => [(0, rv (.pointer (some ⟨b_q, 0, none⟩))), (2, rB false), (3, rB r1.1), (5, rS ([93] : Str)), (6, rI .i64 (x16.length : Int)), (7, rS ([] : Str)), (8, rI .i64 σ.2.1.1)]) (fun σ => [.blk b_q [rS σ.2.1.2.1, rI .i64 σ.2.1.2.2.1, rv σ.2.2, rB σ.2.1.2.2.2.2] 57, .row σ.2.2 63 4 (List.map eTApiCell σ.2.1.2.2.2.1)]) (fun σ => σ.1) (F, (1, r40.2.fS, r40.2.fAt, r40.2.fCells, r40.2.fGreat), v43) eo142 (Sub.c rfl (Sub.c rfl (Sub.c5 rfl rfl rfl rfl rfl Sub.nil))) (sC (sC (sS sN))) (fun σ => vRValue_k2  = some r) (fun σ => []) (fun σ => []) ?_ ?_
     ·rintro ⟨n149, ⟨x107, x108, x109, x110, x112⟩, v111⟩ hi147
      refine wc_as (l' := [(0, rv (.pointer (some ⟨b_q, 0, none⟩))), (2, rB false), (3, rB r1.1), (5, rS ([93] : Str)), (6, rI .i64 (x16.length : Int)), (7, rS ([] : Str)), (8, rI .i64 x107)]) (H' := [.blk b_q [rS x108, rI .i64 x109, rv v111, rB x112] 57, .row v111 63 4 (List.map eTApiCell x110)]) rfl rfl ?_
      obtain ⟨m146, rfl, t144, h148, ht145⟩ := lop_e hi147
      replace h148 : vRValue_b2 rec_vRValue x16 x107 x108 x109 x110 x112 = some t144 := h148
      unfold vRValue_b2 at h148
      refine wc_seq ?_
      refine wc_block ?_
      refine wc_seq ?_
      refine wc_sr ?_
      refine wm rfl ?_
      refine wv (o_not rfl) ?_
      refine wl_x ?_
      refine wc_cond_f rfl (not_t c34) ?_
      refine wc_skip ?_
      refine wk_x ?_
      refine wc_seq ?_
      refine wc_sr ?_
      refine wm rfl ?_
      obtain ⟨r150, e152, h151⟩ := obn_e h148
      refine wcl (Hr := []) Tryz.call44 (ih_vRValue b_q v111 (TValueReader.mk x108 x109 x110 x112) r150 e152) rfl (List.Perm.refl _) rfl ?_
      rintro _ _ ⟨v153, rfl, rfl⟩
      refine wv (o_not rfl) ?_
      refine wl_x ?_
      refine wc_cond (b := !r150.1) rfl (fun c154 => ?_) (fun c154 => ?_)
      ·have h155 := cnd_t c154 h151
       refine wc_sr ?_
       refine wv (r := rB false) (o_assign rfl) ?_
       refine wl_x ?_
       refine wc_ret ?_
       refine wk_then_ret ?_
       refine wk_in_ret ?_
       refine wk_then_ret ?_
       refine wk_then_ret ?_
       refine wk_cut_ret ?_
       have h156 := stp_ret h155 ht145 hK143
       refine wk_in_ret ?_
       obtain rfl := some_e h156
       exact wk_ret (r_1 Tryz.results44 (rv_t rfl)) (sC (sC sN)) ⟨v153, rfl, rfl⟩
      ·have h157 := cnd_f c154 h151
       refine wc_skip ?_
       refine wk_x ?_
       refine wc_sr ?_
       refine wm rfl ?_
       refine wv (o_nilcheck rfl) ?_
       refine wv (o_fieldAddr Tryz.underlying57 rfl Tryz.sizeOf23 rfl rfl) ?_
       refine wv (o_load (i := 0) Tryz.isAgg23 rfl rfl rfl) ?_
       refine wm rfl ?_
       refine wm rfl ?_
       obtain ⟨g158, h159⟩ := chk_e h157
       refine wv (r := rv (elp 4 v153 (Int.toNat (x16.length : Int)) 0)) (o_ix_w (i := 1) Tryz.underlying23 Tryz.sizeOf63 rfl rfl rfl (len_map g158)) ?_
       refine wv (r := rv (elp 4 v153 (Int.toNat (x16.length : Int)) 3)) (o_fa_w (k := 1) Tryz.underlying63 rfl Tryz.sizeOf3 rfl (len_map g158) rfl rfl rfl) ?_
       refine u_st_w (enc := eTApiCell) (ys := r150.2.fCells) (y' := (TApiCell.mk ((at' r150.2.fCells (x16.length : Int)).fKind) ((at' r150.2.fCells (x16.length : Int)).fInt) ((at' r150.2.fCells (x16.length : Int)).fStr) x107)) (i := 1) (j := (x16.length : Int)) Tryz.sizeOf3 rfl rfl (one_c rfl) rfl g158 rfl rfl (H' := [.blk b_q [rS r150.2.fS, rI .i64 r150.2.fAt, rv v153, rB r150.2.fGreat] 57, .row v153 63 4 (List.map eTApiCell (List.set r150.2.fCells (Int.toNat (x16.length : Int)) (TApiCell.mk ((at' r150.2.fCells (x16.length : Int)).fKind) ((at' r150.2.fCells (x16.length : Int)).fInt) ((at' r150.2.fCells (x16.length : Int)).fStr) x107)))]) rfl ?_
       obtain ⟨r160, e162, h161⟩ := bnd_e h159
       rw [← e162]
       refine wl_x ?_
       refine wc_seq ?_
       refine wc_sr ?_
       refine wm rfl ?_
       refine wm rfl ?_
       obtain ⟨r163, e165, h164⟩ := obn_e h161
       refine wcl (Hr := []) Tryz.call64 (vTake_w b_q v153 (TValueReader.mk r150.2.fS r150.2.fAt r160 r150.2.fGreat) ([93] : Str) r163 e165) rfl (List.Perm.refl _) rfl ?_
       rintro _ _ ⟨v166, rfl, rfl⟩
       refine wl_x ?_
       refine wc_cond (b := r163.1) rfl (fun c167 => ?_) (fun c167 => ?_)
       ·have h168 := cnd_t c167 h164
        refine wc_sr ?_
        refine wv (r := rB true) (o_assign rfl) ?_
        refine wl_x ?_
        refine wc_ret ?_
        refine wk_then_ret ?_
        refine wk_in_ret ?_
        refine wk_then_ret ?_
        refine wk_then_ret ?_
        refine wk_cut_ret ?_
        have h169 := stp_ret h168 ht145 hK143
        refine wk_in_ret ?_
        obtain rfl := some_e h169
        exact wk_ret (r_1 Tryz.results44 (rv_t rfl)) (sC (sC sN)) ⟨v166, rfl, rfl⟩
       ·have h170 := cnd_f c167 h164
        refine wc_skip ?_
        refine wk_x ?_
        refine wc_sr ?_
        refine wm rfl ?_
        obtain ⟨r171, e173, h172⟩ := obn_e h170
        refine wcl (Hr := []) Tryz.call64 (vTake_w b_q v166 r163.2 ([44] : Str) r171 e173) rfl (List.Perm.refl _) rfl ?_
        rintro _ _ ⟨v174, rfl, rfl⟩
        refine wv (o_not rfl) ?_
        refine wl_x ?_
        refine wc_cond (b := !r171.1) rfl (fun c175 => ?_) (fun c175 => ?_)
        ·have h176 := cnd_t c175 h172
         refine wc_sr ?_
         refine wv (r := rB false) (o_assign rfl) ?_
         refine wl_x ?_
         refine wc_ret ?_
         refine wk_in_ret ?_
         refine wk_then_ret ?_
         refine wk_then_ret ?_
         refine wk_cut_ret ?_
         have h177 := stp_ret h176 ht145 hK143
         refine wk_in_ret ?_
         obtain rfl := some_e h177
         exact wk_ret (r_1 Tryz.results44 (rv_t rfl)) (sC (sC sN)) ⟨v174, rfl, rfl⟩
        ·have h178 := cnd_f c175 h172
         refine wc_skip ?_
         refine wk_in_norm ?_
         refine wk_x ?_
         refine wc_region ?_
         refine wm rfl ?_
         obtain ⟨g179, h180⟩ := chk_e h178
         refine wv (o_add rfl rfl g179) ?_
         refine wa rfl ?_
         refine wl_nil ?_
         have h181 := stp_next h180 ht145
         exact wk_then (wk_some (m146, (x107 + 1, r171.2.fS, r171.2.fAt, r171.2.fCells, r171.2.fGreat), v174) ⟨h181, Nat.lt_succ_self _⟩ (Sub.c rfl (Sub.c rfl (Sub.c5 rfl rfl rfl rfl rfl Sub.nil))) (sC (sC sN)))
     ·rintro ⟨⟨⟩, ⟨⟩⟩ h182
      cases h182
   ·have h183 := cnd_f c34 h33
    refine wc_skip ?_
    refine wk_x ?_
    refine wc_sr ?_
    refine wm rfl ?_
    refine wv (o_nilcheck rfl) ?_
    refine wv (o_fieldAddr Tryz.underlying57 rfl Tryz.sizeOf23 rfl rfl) ?_
    refine wv (o_load (i := 0) Tryz.isAgg23 rfl rfl rfl) ?_
    refine wv (o_len_wt (ys := x16) (enc := eTApiCell) (i := 1) Tryz.underlying23 rfl rfl) ?_
    refine wa rfl ?_
    refine wl_y ?_
    refine wm rfl ?_
    refine wm rfl ?_
    refine wv (o_nilcheck rfl) ?_
    refine wv (o_fieldAddr Tryz.underlying57 rfl Tryz.sizeOf23 rfl rfl) ?_
    refine wv (o_load (i := 0) Tryz.isAgg23 rfl rfl rfl) ?_
    refine wm rfl ?_
    refine wv (r := rAgg [rI .i64 6, rI .i64 0, rS ([] : Str), rI .i64 0]) (o_build63_0 rfl rfl) ?_
    refine w_buildSlice (ys := ([(TApiCell.mk 6 0 ([] : Str) 0)] : List TApiCell)) (enc := eTApiCell) (css := [[rI .i64 6, rI .i64 0, rS ([] : Str), rI .i64 0]]) (xs := [.tmp 34]) Tryz.underlying23 Tryz.sizeOf63 Tryz.zeroValue63 rfl rfl rfl ⟨Cel.agg ⟨Up.refl _, Up.refl _, Up.refl _, Up.refl _, trivial⟩, trivial⟩ rfl eTApiCell_len rfl rfl rfl (fun b184 => ?_)
    obtain ⟨g186, h187⟩ := chk_e h183
    obtain ⟨inf, hinf⟩ := info63
    refine w_append (xs := x16) (ys := ([(TApiCell.mk 6 0 ([] : Str) 0)] : List TApiCell)) (enc := eTApiCell) (i := 2) Tryz.underlying23 hinf.1 hinf.2.1 hinf.2.2.1 hinf.2.2.2 rfl rfl rfl rfl rfl (Src.w (i := 0) rfl rfl) eTApiCell_len eTApiCell_one g186 rfl (fun v185 => ?_)
    refine wv (o_nilcheck rfl) ?_
    refine wv (o_fieldAddr Tryz.underlying57 rfl Tryz.sizeOf23 rfl rfl) ?_
    refine u_store (i := 2) Tryz.sizeOf23 rfl rfl (one_row (i := 0) rfl) rfl rfl (cs' := [rS x14, rI .i64 x15, rv v185, rB x18]) rfl (H' := [.row v185 63 4 (List.map eTApiCell (x16 ++ ([(TApiCell.mk 6 0 ([] : Str) 0)] : List TApiCell))), .row (.slice (some ⟨b184, 0, none⟩) 1 1) 63 4 (List.map eTApiCell ([(TApiCell.mk 6 0 ([] : Str) 0)] : List TApiCell)), .blk b_q [rS x14, rI .i64 x15, rv v185, rB x18] 57]) rfl ?_
    refine wl_x ?_
    refine wc_seq ?_
    refine wc_sr ?_
    refine wm rfl ?_
    refine wm rfl ?_
    obtain ⟨r188, e190, h189⟩ := obn_e h187
    refine wcl (Hr := [.row (.slice (some ⟨b184, 0, none⟩) 1 1) 63 4 (List.map eTApiCell ([(TApiCell.mk 6 0 ([] : Str) 0)] : List TApiCell))]) Tryz.call64 (vTake_w b_q v185 (TValueReader.mk x14 x15 (x16 ++ ([(TApiCell.mk 6 0 ([] : Str) 0)] : List TApiCell)) x18) ([125] : Str) r188 e190) rfl ((perm_front (i := 2) rfl).trans (List.Perm.cons _ (List.Perm.refl _))) rfl ?_
    rintro _ _ ⟨v191, rfl, rfl⟩
    refine wl_x ?_
    refine wc_cond (b := r188.1) rfl (fun c192 => ?_) (fun c192 => ?_)
    ·have h193 := cnd_t c192 h189
     refine wc_sr ?_
     refine wv (r := rB true) (o_assign rfl) ?_
     refine wl_x ?_
     refine wc_ret ?_
     refine wk_then_ret ?_
     obtain rfl := some_e h193
     exact wk_ret (r_1 Tryz.results44 (rv_t rfl)) (sC (sC (sS sN))) ⟨v191, rfl, rfl⟩
    ·have h194 := cnd_f c192 h189
     refine wc_skip ?_
     refine wk_x ?_
     refine wc_sr ?_
     refine wv (r := rS ([] : Str)) (o_assign rfl) ?_
     refine wl_y ?_
     refine wv (r := rI .i64 1) (o_assign rfl) ?_
     refine wl_x ?_
     refine wc_block ?_
     obtain ⟨o440, eo441, hK442⟩ := obn_e h194
     refine wc_loop2 (S := Nat × (Str × Int × Str × Int × (List TApiCell) × Bool) × (Value)) (V := (Unit) × (Unit)) 0 (fun σ => lop (fun σ => vRValue_b3 F rec_vRValue x16 σ.1 σ.2.1 σ.2.2.1 σ.2.2.2.1 σ.2.2.2.2.1 σ.2.2.2.2.2) σ.1 σ.2.1 = some o440) (fun σ => [(0, rv (.pointer (some ⟨b_q, 0, none⟩))), (2, rB false), (3, rB r1.1), (5, rS ([125] : Str)), (6, rI .i64 (x16.length : Int)), (7, rS σ.2.1.1), (8, rI .i64 σ.2.1.2.1)]) (fun σ => [.blk b_q [rS σ.2.1.2.2.1, rI .i64 σ.2.1.2.2.2.1, rv σ.2.2, rB σ.2.1.2.2.2.2.2] 57, .row σ.2.2 63 4 (List.map eTApiCell σ.2.1.2.2.2.2.1)]) (fun σ => σ.1) (F, (([] : Str), 1, r188.2.fS, r188.2.fAt, r188.2.fCells, r188.2.fGreat), v191) eo441 (Sub.c rfl (Sub.c rfl (Sub.c5 rfl rfl rfl rfl rfl Sub.nil))) (sC (sC (sS sN))) (fun σ => vRValue_k3  = some r) (fun σ => []) (fun σ => []) ?_ ?_
     ·rintro ⟨n448, ⟨x348, x349, x350, x351, x352, x354⟩, v353⟩ hi446
      refine wc_as (l' := [(0, rv (.pointer (some ⟨b_q, 0, none⟩))), (2, rB false), (3, rB r1.1), (5, rS ([125] : Str)), (6, rI .i64 (x16.length : Int)), (7, rS x348), (8, rI .i64 x349)]) (H' := [.blk b_q [rS x350, rI .i64 x351, rv v353, rB x354] 57, .row v353 63 4 (List.map eTApiCell x352)]) rfl rfl ?_
      obtain ⟨m445, rfl, t443, h447, ht444⟩ := lop_e hi446
      replace h447 : vRValue_b3 F rec_vRValue x16 x348 x349 x350 x351 x352 x354 = some t443 := h447
      unfold vRValue_b3 at h447
      refine wc_seq ?_
      refine wc_block ?_
      refine wc_seq ?_
      refine wc_sr ?_
      refine wm rfl ?_
      refine wv (o_not rfl) ?_
      refine wl_x ?_
      refine wc_cond_t rfl (not_f c34) ?_
      refine wc_sr ?_
      refine wm rfl ?_
      obtain ⟨r449, e451, h450⟩ := obn_e h447
      refine wcl (Hr := []) Tryz.call66 (vRStr_w F b_q v353 (TValueReader.mk x350 x351 x352 x354) r449 e451) rfl (List.Perm.refl _) rfl ?_
      rintro _ _ ⟨v452, rfl, rfl⟩
      refine wm rfl ?_
      refine wv (o_extract rfl rfl) ?_
      refine wv (o_extract rfl rfl) ?_
      refine wa rfl ?_
      refine wa rfl ?_
      refine wl_x ?_
      refine wc_seq ?_
      refine wc_seq_cut (S := (Bool × Bool × Bool × Str × Int × (List TApiCell) × Bool) × (Value)) (fun σ => vRValue_j4 rec_vRValue x16 x349 r449 σ.1.1 σ.1.2.1 σ.1.2.2.1 σ.1.2.2.2.1 σ.1.2.2.2.2.1 σ.1.2.2.2.2.2.1 σ.1.2.2.2.2.2.2 = some t443) (fun σ => [(0, rv (.pointer (some ⟨b_q, 0, none⟩))), (2, rB false), (3, rB r1.1), (5, rS ([125] : Str)), (6, rI .i64 (x16.length : Int)), (7, rS x348), (8, rI .i64 x349), (9, rS r449.1), (10, rB r449.2.1), (44, rB r1.1), (45, rB (!r1.1)), (46, rTup [rS r449.1, rB r449.2.1]), (47, rv (.pointer (some ⟨b_q, 0, none⟩))), (48, rTup [rS r449.1, rB r449.2.1]), (49, rS r449.1), (50, rB r449.2.1), (51, rB r449.2.1), (52, rB (!r449.2.1)), (53, rB (!r449.2.1)), (61, rB σ.1.1), (62, rB σ.1.2.1), (66, rB σ.1.2.2.1)]) (fun σ => [.blk b_q [rS σ.1.2.2.2.1, rI .i64 σ.1.2.2.2.2.1, rv σ.2, rB σ.1.2.2.2.2.2.2] 57, .row σ.2 63 4 (List.map eTApiCell σ.1.2.2.2.2.2.1)]) ?_ ?_
      ·refine wc_region ?_
       refine wm rfl ?_
       refine wv (o_not rfl) ?_
       refine wm rfl ?_
       refine bsplit (!r449.2.1) (fun c481 => ?_) (fun c481 => ?_)
       ·have h482 := cnd_t c481 h450
        refine wf c481 ?_
        refine wf c481 ?_
        refine wf c481 ?_
        refine wu ?_
        refine wu ?_
        refine wu ?_
        refine wf c481 ?_
        refine wv (r := rB true) (o_pick_t (b := !r449.2.1) rfl c481 rfl) ?_
        refine wm rfl ?_
        refine wl_off (b := true) rfl rfl rfl rfl ?_
        refine wl_off (b := true) rfl rfl rfl rfl ?_
        refine wl_off (b := true) rfl rfl rfl rfl ?_
        refine wv (r := rB true) (o_pick_t (b := true) rfl rfl rfl) ?_
        refine wl_nil ?_
        exact wk_then (wk_some ((true, true, true, r449.2.2.fS, r449.2.2.fAt, r449.2.2.fCells, r449.2.2.fGreat), v452) h482 (Sub.c rfl (Sub.c rfl (Sub.c5 rfl rfl rfl rfl rfl (Sub.c5 rfl rfl rfl rfl rfl (Sub.c5 rfl rfl rfl rfl rfl (Sub.c5 rfl rfl rfl rfl rfl Sub.nil)))))) (sC (sC sN)))
       ·have h483 := cnd_f c481 h450
        refine wo c481 ?_
        refine wm rfl ?_
        refine wo c481 ?_
        refine wv (o_gt rfl rfl) ?_
        refine wo c481 ?_
        refine wm rfl ?_
        refine bsplit (decide (1 < x349)) (fun c484 => ?_) (fun c484 => ?_)
        ·have h485 := cnd_t c484 h483
         refine wo c484 ?_
         refine wm rfl ?_
         refine wo c484 ?_
         refine wm rfl ?_
         refine wo c484 ?_
         refine wv (o_sle rfl rfl) ?_
         refine wo c481 ?_
         refine wpt rfl c484 rfl ?_
         refine wpf rfl c481 rfl ?_
         refine wm rfl ?_
         refine bsplit (sLess r449.1 x348 || decide (r449.1 = x348)) (fun c486 => ?_) (fun c486 => ?_)
         ·have h487 := cnd_t c486 h485
          refine wf c486 ?_
          refine wf c486 ?_
          refine wf c486 ?_
          refine wv (r := rB true) (o_pick_t (b := sLess r449.1 x348 || decide (r449.1 = x348)) rfl c486 rfl) ?_
          refine wl_nil ?_
          exact wk_then (wk_some ((sLess r449.1 x348 || decide (r449.1 = x348), sLess r449.1 x348 || decide (r449.1 = x348), true, r449.2.2.fS, r449.2.2.fAt, r449.2.2.fCells, r449.2.2.fGreat), v452) h487 (Sub.c rfl (Sub.c rfl (Sub.c5 rfl rfl rfl rfl rfl (Sub.c5 rfl rfl rfl rfl rfl (Sub.c5 rfl rfl rfl rfl rfl (Sub.c5 rfl rfl rfl rfl rfl Sub.nil)))))) (sC (sC sN)))
         ·have h488 := cnd_f c486 h485
          refine wo c486 ?_
          refine wm rfl ?_
          refine wo c486 ?_
          obtain ⟨r489, e491, h490⟩ := obn_e h488
          refine wcl (Hr := []) Tryz.call64 (vTake_w b_q v452 r449.2.2 ([58] : Str) r489 e491) rfl (List.Perm.refl _) rfl ?_
          rintro _ _ ⟨v492, rfl, rfl⟩
          refine wo c486 ?_
          refine wv (o_not rfl) ?_
          refine wpf rfl c486 rfl ?_
          refine wl_nil ?_
          exact wk_then (wk_some ((sLess r449.1 x348 || decide (r449.1 = x348), sLess r449.1 x348 || decide (r449.1 = x348), !r489.1, r489.2.fS, r489.2.fAt, r489.2.fCells, r489.2.fGreat), v492) h490 (Sub.c rfl (Sub.c rfl (Sub.c5 rfl rfl rfl rfl rfl (Sub.c5 rfl rfl rfl rfl rfl (Sub.c5 rfl rfl rfl rfl rfl (Sub.c5 rfl rfl rfl rfl rfl Sub.nil)))))) (sC (sC sN)))
        ·have h493 := cnd_f c484 h483
         refine wf c484 ?_
         refine wf c484 ?_
         refine wf c484 ?_
         refine wo c481 ?_
         refine wv (r := rB false) (o_pick_f (b := decide (1 < x349)) rfl c484 rfl) ?_
         refine wpf rfl c481 rfl ?_
         refine wm rfl ?_
         refine wl_on (b := false) rfl rfl rfl ?_
         refine wm rfl ?_
         refine wl_on (b := false) rfl rfl rfl ?_
         obtain ⟨r494, e496, h495⟩ := obn_e h493
         refine wcl (Hr := []) Tryz.call64 (vTake_w b_q v452 r449.2.2 ([58] : Str) r494 e496) rfl (List.Perm.refl _) rfl ?_
         rintro _ _ ⟨v497, rfl, rfl⟩
         refine wl_on (b := false) rfl rfl rfl ?_
         refine wv (o_not rfl) ?_
         refine wv (r := rB (!r494.1)) (o_pick_f (b := false) rfl rfl rfl) ?_
         refine wl_nil ?_
         exact wk_then (wk_some ((false, false, !r494.1, r494.2.fS, r494.2.fAt, r494.2.fCells, r494.2.fGreat), v497) h495 (Sub.c rfl (Sub.c rfl (Sub.c5 rfl rfl rfl rfl rfl (Sub.c5 rfl rfl rfl rfl rfl (Sub.c5 rfl rfl rfl rfl rfl (Sub.c5 rfl rfl rfl rfl rfl Sub.nil)))))) (sC (sC sN)))
      ·rintro ⟨⟨x473, x474, x475, x476, x477, x478, x480⟩, v479⟩ h498
       refine wc_as (l' := [(0, rv (.pointer (some ⟨b_q, 0, none⟩))), (2, rB false), (3, rB r1.1), (5, rS ([125] : Str)), (6, rI .i64 (x16.length : Int)), (7, rS x348), (8, rI .i64 x349), (9, rS r449.1), (10, rB r449.2.1), (44, rB r1.1), (45, rB (!r1.1)), (46, rTup [rS r449.1, rB r449.2.1]), (47, rv (.pointer (some ⟨b_q, 0, none⟩))), (48, rTup [rS r449.1, rB r449.2.1]), (49, rS r449.1), (50, rB r449.2.1), (51, rB r449.2.1), (52, rB (!r449.2.1)), (53, rB (!r449.2.1)), (61, rB x473), (62, rB x474), (66, rB x475)]) (H' := [.blk b_q [rS x476, rI .i64 x477, rv v479, rB x480] 57, .row v479 63 4 (List.map eTApiCell x478)]) rfl rfl ?_
       replace h498 : vRValue_j4 rec_vRValue x16 x349 r449 x473 x474 x475 x476 x477 x478 x480 = some t443 := h498
       unfold vRValue_j4 at h498
       refine wc_cond (b := x475) rfl (fun c499 => ?_) (fun c499 => ?_)
       ·have h500 := cnd_t c499 h498
        refine wc_sr ?_
        refine wv (r := rB false) (o_assign rfl) ?_
        refine wl_x ?_
        refine wc_ret ?_
        refine wk_then_ret ?_
        refine wk_then_ret ?_
        refine wk_in_ret ?_
        refine wk_then_ret ?_
        refine wk_then_ret ?_
        refine wk_cut_ret ?_
        have h501 := stp_ret h500 ht444 hK442
        refine wk_in_ret ?_
        obtain rfl := some_e h501
        exact wk_ret (r_1 Tryz.results44 (rv_t rfl)) (sC (sC sN)) ⟨v479, rfl, rfl⟩
       ·have h502 := cnd_f c499 h498
        refine wc_skip ?_
        refine wk_x ?_
        refine wc_sr ?_
        refine wm rfl ?_
        refine wa rfl ?_
        refine wl_x ?_
        refine wc_region ?_
        refine wm rfl ?_
        refine wm rfl ?_
        refine wv (o_nilcheck rfl) ?_
        refine wv (o_fieldAddr Tryz.underlying57 rfl Tryz.sizeOf23 rfl rfl) ?_
        refine wv (o_load (i := 0) Tryz.isAgg23 rfl rfl rfl) ?_
        refine wm rfl ?_
        refine wv (r := rAgg [rI .i64 4, rI .i64 0, rS r449.1, rI .i64 0]) (o_build63_0_2 rfl rfl rfl rfl) ?_
        refine w_buildSlice (ys := ([(TApiCell.mk 4 0 r449.1 0)] : List TApiCell)) (enc := eTApiCell) (css := [[rI .i64 4, rI .i64 0, rS r449.1, rI .i64 0]]) (xs := [.tmp 74]) Tryz.underlying23 Tryz.sizeOf63 Tryz.zeroValue63 rfl rfl rfl ⟨Cel.agg ⟨Up.refl _, Up.refl _, Up.refl _, Up.refl _, trivial⟩, trivial⟩ rfl eTApiCell_len rfl rfl rfl (fun b503 => ?_)
        obtain ⟨g505, h506⟩ := chk_e h502
        obtain ⟨inf, hinf⟩ := info63
        refine w_append (xs := x478) (ys := ([(TApiCell.mk 4 0 r449.1 0)] : List TApiCell)) (enc := eTApiCell) (i := 2) Tryz.underlying23 hinf.1 hinf.2.1 hinf.2.2.1 hinf.2.2.2 rfl rfl rfl rfl rfl (Src.w (i := 0) rfl rfl) eTApiCell_len eTApiCell_one g505 rfl (fun v504 => ?_)
        refine wv (o_nilcheck rfl) ?_
        refine wv (o_fieldAddr Tryz.underlying57 rfl Tryz.sizeOf23 rfl rfl) ?_
        refine u_store (i := 2) Tryz.sizeOf23 rfl rfl (one_row (i := 0) rfl) rfl rfl (cs' := [rS x476, rI .i64 x477, rv v504, rB x480]) rfl (H' := [.row v504 63 4 (List.map eTApiCell (x478 ++ ([(TApiCell.mk 4 0 r449.1 0)] : List TApiCell))), .row (.slice (some ⟨b503, 0, none⟩) 1 1) 63 4 (List.map eTApiCell ([(TApiCell.mk 4 0 r449.1 0)] : List TApiCell)), .blk b_q [rS x476, rI .i64 x477, rv v504, rB x480] 57]) rfl ?_
        refine wl_x ?_
        refine wc_seq ?_
        refine wc_sr ?_
        refine wm rfl ?_
        obtain ⟨r507, e509, h508⟩ := obn_e h506
        refine wcl (Hr := [.row (.slice (some ⟨b503, 0, none⟩) 1 1) 63 4 (List.map eTApiCell ([(TApiCell.mk 4 0 r449.1 0)] : List TApiCell))]) Tryz.call44 (ih_vRValue b_q v504 (TValueReader.mk x476 x477 (x478 ++ ([(TApiCell.mk 4 0 r449.1 0)] : List TApiCell)) x480) r507 e509) rfl ((perm_front (i := 2) rfl).trans (List.Perm.cons _ (List.Perm.refl _))) rfl ?_
        rintro _ _ ⟨v510, rfl, rfl⟩
        refine wv (o_not rfl) ?_
        refine wl_x ?_
        refine wc_cond (b := !r507.1) rfl (fun c511 => ?_) (fun c511 => ?_)
        ·have h512 := cnd_t c511 h508
         refine wc_sr ?_
         refine wv (r := rB false) (o_assign rfl) ?_
         refine wl_x ?_
         refine wc_ret ?_
         refine wk_then_ret ?_
         refine wk_in_ret ?_
         refine wk_then_ret ?_
         refine wk_then_ret ?_
         refine wk_cut_ret ?_
         have h513 := stp_ret h512 ht444 hK442
         refine wk_in_ret ?_
         obtain rfl := some_e h513
         exact wk_ret (r_1 Tryz.results44 (rv_t rfl)) (sC (sC (sS sN))) ⟨v510, rfl, rfl⟩
        ·have h514 := cnd_f c511 h508
         refine wc_skip ?_
         refine wk_x ?_
         refine wc_sr ?_
         refine wm rfl ?_
         refine wv (o_nilcheck rfl) ?_
         refine wv (o_fieldAddr Tryz.underlying57 rfl Tryz.sizeOf23 rfl rfl) ?_
         refine wv (o_load (i := 0) Tryz.isAgg23 rfl rfl rfl) ?_
         refine wm rfl ?_
         refine wm rfl ?_
         obtain ⟨g515, h516⟩ := chk_e h514
         refine wv (r := rv (elp 4 v510 (Int.toNat (x16.length : Int)) 0)) (o_ix_w (i := 1) Tryz.underlying23 Tryz.sizeOf63 rfl rfl rfl (len_map g515)) ?_
         refine wv (r := rv (elp 4 v510 (Int.toNat (x16.length : Int)) 3)) (o_fa_w (k := 1) Tryz.underlying63 rfl Tryz.sizeOf3 rfl (len_map g515) rfl rfl rfl) ?_
         refine u_st_w (enc := eTApiCell) (ys := r507.2.fCells) (y' := (TApiCell.mk ((at' r507.2.fCells (x16.length : Int)).fKind) ((at' r507.2.fCells (x16.length : Int)).fInt) ((at' r507.2.fCells (x16.length : Int)).fStr) x349)) (i := 1) (j := (x16.length : Int)) Tryz.sizeOf3 rfl rfl (one_c rfl) rfl g515 rfl rfl (H' := [.blk b_q [rS r507.2.fS, rI .i64 r507.2.fAt, rv v510, rB r507.2.fGreat] 57, .row v510 63 4 (List.map eTApiCell (List.set r507.2.fCells (Int.toNat (x16.length : Int)) (TApiCell.mk ((at' r507.2.fCells (x16.length : Int)).fKind) ((at' r507.2.fCells (x16.length : Int)).fInt) ((at' r507.2.fCells (x16.length : Int)).fStr) x349))), .row (.slice (some ⟨b503, 0, none⟩) 1 1) 63 4 (List.map eTApiCell ([(TApiCell.mk 4 0 r449.1 0)] : List TApiCell))]) rfl ?_
         obtain ⟨r517, e519, h518⟩ := bnd_e h516
         rw [← e519]
         refine wl_x ?_
         refine wc_seq ?_
         refine wc_sr ?_
         refine wm rfl ?_
         refine wm rfl ?_
         obtain ⟨r520, e522, h521⟩ := obn_e h518
         refine wcl (Hr := [.row (.slice (some ⟨b503, 0, none⟩) 1 1) 63 4 (List.map eTApiCell ([(TApiCell.mk 4 0 r449.1 0)] : List TApiCell))]) Tryz.call64 (vTake_w b_q v510 (TValueReader.mk r507.2.fS r507.2.fAt r517 r507.2.fGreat) ([125] : Str) r520 e522) rfl (List.Perm.refl _) rfl ?_
         rintro _ _ ⟨v523, rfl, rfl⟩
         refine wl_x ?_
         refine wc_cond (b := r520.1) rfl (fun c524 => ?_) (fun c524 => ?_)
         ·have h525 := cnd_t c524 h521
          refine wc_sr ?_
          refine wv (r := rB true) (o_assign rfl) ?_
          refine wl_x ?_
          refine wc_ret ?_
          refine wk_then_ret ?_
          refine wk_in_ret ?_
          refine wk_then_ret ?_
          refine wk_then_ret ?_
          refine wk_cut_ret ?_
          have h526 := stp_ret h525 ht444 hK442
          refine wk_in_ret ?_
          obtain rfl := some_e h526
          exact wk_ret (r_1 Tryz.results44 (rv_t rfl)) (sC (sC (sS sN))) ⟨v523, rfl, rfl⟩
         ·have h527 := cnd_f c524 h521
          refine wc_skip ?_
          refine wk_x ?_
          refine wc_sr ?_
          refine wm rfl ?_
          obtain ⟨r528, e530, h529⟩ := obn_e h527
          refine wcl (Hr := [.row (.slice (some ⟨b503, 0, none⟩) 1 1) 63 4 (List.map eTApiCell ([(TApiCell.mk 4 0 r449.1 0)] : List TApiCell))]) Tryz.call64 (vTake_w b_q v523 r520.2 ([44] : Str) r528 e530) rfl (List.Perm.refl _) rfl ?_
          rintro _ _ ⟨v531, rfl, rfl⟩
          refine wv (o_not rfl) ?_
          refine wl_x ?_
          refine wc_cond (b := !r528.1) rfl (fun c532 => ?_) (fun c532 => ?_)
          ·have h533 := cnd_t c532 h529
           refine wc_sr ?_
           refine wv (r := rB false) (o_assign rfl) ?_
           refine wl_x ?_
           refine wc_ret ?_
           refine wk_in_ret ?_
           refine wk_then_ret ?_
           refine wk_then_ret ?_
           refine wk_cut_ret ?_
           have h534 := stp_ret h533 ht444 hK442
           refine wk_in_ret ?_
           obtain rfl := some_e h534
           exact wk_ret (r_1 Tryz.results44 (rv_t rfl)) (sC (sC (sS sN))) ⟨v531, rfl, rfl⟩
          ·have h535 := cnd_f c532 h529
           refine wc_skip ?_
           refine wk_in_norm ?_
           refine wk_x ?_
           refine wc_region ?_
           refine wm rfl ?_
           obtain ⟨g536, h537⟩ := chk_e h535
           refine wv (o_add rfl rfl g536) ?_
           refine wa rfl ?_
           refine wl_nil ?_
           have h538 := stp_next h537 ht444
           exact wk_then (wk_some (m445, (r449.1, x349 + 1, r528.2.fS, r528.2.fAt, r528.2.fCells, r528.2.fGreat), v531) ⟨h538, Nat.lt_succ_self _⟩ (Sub.c rfl (Sub.c rfl (Sub.c5 rfl rfl rfl rfl rfl Sub.nil))) (sC (sC (sS sN))))
     ·rintro ⟨⟨⟩, ⟨⟩⟩ h539
      cases h539

theorem vRValue_all : ∀ F : Nat, (∀ (b_q : Nat) (v_q_2 : Value) (q : TValueReader) (r : Bool × TValueReader), vRValue F q = some r → Fn Tryz.prog GE 44 [rv (.pointer (some ⟨b_q, 0, none⟩))] [.blk b_q [rS q.fS, rI .i64 q.fAt, rv v_q_2, rB q.fGreat] 57, .row v_q_2 63 4 (List.map eTApiCell q.fCells)] (fun R H => ∃ w0_2 : Value, R = rB r.1 ∧ H = [.blk b_q [rS r.2.fS, rI .i64 r.2.fAt, rv w0_2, rB r.2.fGreat] 57, .row w0_2 63 4 (List.map eTApiCell r.2.fCells)]))
  | 0 => (fun _ _ _ _ h => by simp [vRValue] at h)
  | nn + 1 => (fun b_q v_q_2 q r h => vRValuem_w nn (vRValue nn) (vRValue_all nn) b_q v_q_2 q r (by rw [vRValue] at h; exact h))

theorem vRValue_w (F : Nat) (b_q : Nat) (v_q_2 : Value) (q : TValueReader) (r : Bool × TValueReader) (h : vRValue F q = some r) : Fn Tryz.prog GE 44 [rv (.pointer (some ⟨b_q, 0, none⟩))] [.blk b_q [rS q.fS, rI .i64 q.fAt, rv v_q_2, rB q.fGreat] 57, .row v_q_2 63 4 (List.map eTApiCell q.fCells)] (fun R H => ∃ w0_2 : Value, R = rB r.1 ∧ H = [.blk b_q [rS r.2.fS, rI .i64 r.2.fAt, rv w0_2, rB r.2.fGreat] 57, .row w0_2 63 4 (List.map eTApiCell r.2.fCells)]) := (vRValue_all F) b_q v_q_2 q r h

theorem vDecode_w (F : Nat) (s : Str) (r : (List TApiCell) × Int) (h : vDecode F s = some r) : Fn Tryz.prog GE 8 [rS s] [] (fun R H => R = rTup [rSl 4 (List.map eTApiCell r.1), rI .i64 r.2] ∧ H = []) := by
 refine enter (n := 34) Tryz.func8 rfl Tryz.ntmps8 rfl (fun w Z => ?_)
 refine wc_as (l' := [(0, rS s)]) (H' := []) rfl rfl ?_
 unfold vDecode at h
 refine wc_sr ?_
 refine wv (r := rv (.slice none 0 0)) (o_assign rfl) ?_
 refine wv (r := rI .i64 0) (o_assign rfl) ?_
 refine wl_x ?_
 refine wc_seq ?_
 refine wc_sr ?_
 refine wm rfl ?_
 refine wv (o_len_s Tryz.underlying9 rfl) ?_
 refine wv (o_gt rfl rfl) ?_
 refine wl_x ?_
 refine wc_cond (b := decide (4000 < (s.length : Int))) rfl (fun c1 => ?_) (fun c1 => ?_)
 ·have h2 := cnd_t c1 h
  refine wc_sr ?_
  refine wv (r := rv (.slice none 0 0)) (o_assign rfl) ?_
  refine wv (r := rI .i64 3) (o_assign rfl) ?_
  refine wl_x ?_
  refine wc_ret ?_
  refine wk_then_ret ?_
  refine WK.up (d := 2) (r := rSl 4 (List.map eTApiCell ([] : List TApiCell))) rfl (Up.le (Rle.nil _)) ?_
  obtain rfl := some_e h2
  exact wk_ret (r_2 Tryz.results8 (rv_t rfl) (rv_t rfl)) sN ⟨rfl, rfl⟩
 ·have h3 := cnd_f c1 h
  refine wc_skip ?_
  refine wk_x ?_
  refine wc_sr ?_
  refine wm rfl ?_
  refine wv (r := rAgg [rS s, rI .i64 0, rv (.slice none 0 0), rB false]) (o_build57_0 rfl rfl) ?_
  refine w_box_agg rfl rfl (fun b4 => ?_)
  refine wa rfl ?_
  refine wl_x ?_
  refine wc_seq ?_
  refine wc_seq_cut (S := (Bool × Str × Int × (List TApiCell) × Bool) × (Value)) (fun σ => vDecode_j1 F σ.1.1 σ.1.2.1 σ.1.2.2.1 σ.1.2.2.2.1 σ.1.2.2.2.2 = some r) (fun σ => [(2, rv (.slice none 0 0)), (3, rI .i64 0), (4, rv (.pointer (some ⟨b4, 0, none⟩))), (22, rB σ.1.1)]) (fun σ => [.blk b4 [rS σ.1.2.1, rI .i64 σ.1.2.2.1, rv σ.2, rB σ.1.2.2.2.2] 57, .row σ.2 63 4 (List.map eTApiCell σ.1.2.2.2.1)]) ?_ ?_
  ·refine wc_region ?_
   refine wm rfl ?_
   refine WL.nilrow (e := 63) (sz := 4) ?_
   obtain ⟨r18, e20, h19⟩ := obn_e h3
   refine wcl (Hr := []) Tryz.call44 (vRValue_w F b4 (.slice none 0 0                                                               ) (TValueReader.mk s 0 ([] : List TApiCell) false) r18 e20) rfl ((perm_front (i := 1) rfl).trans (List.Perm.cons _ (List.Perm.refl _))) rfl ?_
   rintro _ _ ⟨v21, rfl, rfl⟩
   refine wv (o_not rfl) ?_
   refine wm rfl ?_
   refine bsplit (!r18.1) (fun c22 => ?_) (fun c22 => ?_)
   ·have h23 := cnd_t c22 h19
    refine wf c22 ?_
    refine wf c22 ?_
    refine wf c22 ?_
    refine wf c22 ?_
    refine wf c22 ?_
    refine wf c22 ?_
    refine wf c22 ?_
    refine wv (r := rB true) (o_pick_t (b := !r18.1) rfl c22 rfl) ?_
    refine wl_nil ?_
    exact wk_then (wk_some ((true, r18.2.fS, r18.2.fAt, r18.2.fCells, r18.2.fGreat), v21) h23 (Sub.c rfl (Sub.c rfl (Sub.c rfl (Sub.c rfl Sub.nil)))) (sC (sC sN)))
   ·have h24 := cnd_f c22 h19
    refine wo c22 ?_
    refine wm rfl ?_
    refine wo c22 ?_
    refine wv (o_nilcheck rfl) ?_
    refine wo c22 ?_
    refine wv (o_fieldAddr Tryz.underlying57 rfl Tryz.sizeOf3 rfl rfl) ?_
    refine wo c22 ?_
    refine wv (o_load (i := 0) Tryz.isAgg3 rfl rfl rfl) ?_
    refine wo c22 ?_
    refine wm rfl ?_
    refine wo c22 ?_
    refine wv (o_len_s Tryz.underlying9 rfl) ?_
    refine wo c22 ?_
    refine wv (o_ne rfl rfl) ?_
    refine wpf rfl c22 rfl ?_
    refine wl_nil ?_
    exact wk_then (wk_some ((!decide (r18.2.fAt = (s.length : Int)), r18.2.fS, r18.2.fAt, r18.2.fCells, r18.2.fGreat), v21) h24 (Sub.c rfl (Sub.c rfl (Sub.c rfl (Sub.c rfl Sub.nil)))) (sC (sC sN)))
  ·rintro ⟨⟨x12, x13, x14, x15, x17⟩, v16⟩ h25
   refine wc_as (l' := [(2, rv (.slice none 0 0)), (3, rI .i64 0), (4, rv (.pointer (some ⟨b4, 0, none⟩))), (22, rB x12)]) (H' := [.blk b4 [rS x13, rI .i64 x14, rv v16, rB x17] 57, .row v16 63 4 (List.map eTApiCell x15)]) rfl rfl ?_
   replace h25 : vDecode_j1 F x12 x13 x14 x15 x17 = some r := h25
   unfold vDecode_j1 at h25
   refine wc_cond (b := x12) rfl (fun c26 => ?_) (fun c26 => ?_)
   ·have h27 := cnd_t c26 h25
    refine wc_sr ?_
    refine wv (r := rv (.slice none 0 0)) (o_assign rfl) ?_
    refine wv (r := rI .i64 1) (o_assign rfl) ?_
    refine wl_x ?_
    refine wc_ret ?_
    refine wk_then_ret ?_
    refine WK.up (d := 2) (r := rSl 4 (List.map eTApiCell ([] : List TApiCell))) rfl (Up.le (Rle.nil _)) ?_
    obtain rfl := some_e h27
    exact wk_ret (r_2 Tryz.results8 (rv_t rfl) (rv_t rfl)) (sS (sS sN)) ⟨rfl, rfl⟩
   ·have h28 := cnd_f c26 h25
    refine wc_skip ?_
    refine wk_x ?_
    refine wc_seq ?_
    refine wc_sr ?_
    refine wm rfl ?_
    refine wv (o_nilcheck rfl) ?_
    refine wv (o_fieldAddr Tryz.underlying57 rfl Tryz.sizeOf4 rfl rfl) ?_
    refine wv (o_load (i := 0) Tryz.isAgg4 rfl rfl rfl) ?_
    refine wl_x ?_
    refine wc_cond (b := x17) rfl (fun c29 => ?_) (fun c29 => ?_)
    ·have h30 := cnd_t c29 h28
     refine wc_sr ?_
     refine wv (r := rv (.slice none 0 0)) (o_assign rfl) ?_
     refine wv (r := rI .i64 2) (o_assign rfl) ?_
     refine wl_x ?_
     refine wc_ret ?_
     refine wk_then_ret ?_
     refine WK.up (d := 2) (r := rSl 4 (List.map eTApiCell ([] : List TApiCell))) rfl (Up.le (Rle.nil _)) ?_
     obtain rfl := some_e h30
     exact wk_ret (r_2 Tryz.results8 (rv_t rfl) (rv_t rfl)) (sS (sS sN)) ⟨rfl, rfl⟩
    ·have h31 := cnd_f c29 h28
     refine wc_skip ?_
     refine wk_x ?_
     refine wc_sr ?_
     refine wm rfl ?_
     refine wv (o_nilcheck rfl) ?_
     refine wv (o_fieldAddr Tryz.underlying57 rfl Tryz.sizeOf23 rfl rfl) ?_
     refine wv (o_load (i := 0) Tryz.isAgg23 rfl rfl rfl) ?_
     refine WL.freeze (i := 1) rfl ?_
     refine WL.up (d := 30) (r := rSl 4 (List.map eTApiCell x15)) rfl (Up.fact (i := 0) rfl) ?_
     obtain ⟨r32, e34, h33⟩ := obn_e h31
     refine wc0 Tryz.call45 (vChecked_w F x15 r32 e34) rfl ?_
     refine wv (o_extract rfl rfl) ?_
     refine wv (o_extract rfl rfl) ?_
     refine wa rfl ?_
     refine wa rfl ?_
     refine wl_x ?_
     refine wc_ret ?_
     obtain rfl := some_e h33
     exact wk_ret (r_2 Tryz.results8 (rv_t rfl) (rv_t rfl)) (sS (sS sN)) ⟨rfl, rfl⟩

end Go.Proofs.YtkalifgebccpcaaGreatDoor.Q

/-
 What functions compute, with checks: plain definitions, printed by a small program of ours (gq.py). No program in sight.
-/
namespace Go.Proofs.YtkalifgebccpcaaGreatDoor
open Go
set_option linter.unusedVariables false
def slEqual_b1 (a : (List TApiCell)) (b : (List TApiCell)) (x27 : Int) : Option (Stp (Int) (Out (Bool) (Unit))) :=
 cnd (decide (x27 < (a.length : Int))) (chk (inR x27 (a.length : Int)) <| chk (inR x27 (b.length : Int)) <| cnd (!(decide (((at' a x27).fKind) = ((at' b x27).fKind)) && decide (((at' a x27).fInt) = ((at' b x27).fInt)) && decide (((at' a x27).fStr) = ((at' b x27).fStr)) && decide (((at' a x27).fN) = ((at' b x27).fN)))) (some (.out (.ret false))) (chk (inK .i64 (x27 + 1)) <| some (.next (x27 + 1)))) (some (.out (.go ())))

def slEqual_k1  : Option (Bool) :=
 some true

def slEqual (F : Nat) (a : (List TApiCell)) (b : (List TApiCell)) : Option (Bool) :=
 cnd (!decide ((a.length : Int) = (b.length : Int))) (some false) (obn (lop (fun σ => slEqual_b1 a b σ) F 0) (oute fun ν => slEqual_k1 ))

def vSame (F : Nat) (a : (List TApiCell)) (b : (List TApiCell)) : Option (Bool) :=
 obn (slEqual F a b) fun r1 => some r1

def rSame_b1 (a : (List TApiCell)) (b : (List TApiCell)) (x27 : Int) : Option (Stp (Int) (Out (Bool) (Unit))) :=
 cnd (decide (x27 < (a.length : Int))) (chk (inR x27 (a.length : Int)) <| chk (inR x27 (b.length : Int)) <| cnd (!(decide (((at' a x27).fKind) = ((at' b x27).fKind)) && decide (((at' a x27).fInt) = ((at' b x27).fInt)) && decide (((at' a x27).fStr) = ((at' b x27).fStr)) && decide (((at' a x27).fN) = ((at' b x27).fN)))) (some (.out (.ret false))) (chk (inK .i64 (x27 + 1)) <| some (.next (x27 + 1)))) (some (.out (.go ())))

def rSame_k1  : Option (Bool) :=
 some true

def rSame (F : Nat) (a : (List TApiCell)) (b : (List TApiCell)) : Option (Bool) :=
 cnd (!decide ((a.length : Int) = (b.length : Int))) (some false) (obn (lop (fun σ => rSame_b1 a b σ) F 0) (oute fun ν => rSame_k1 ))

def lSmall_b1 (v : (List TApiCell)) (x23 : Int) : Option (Stp (Int) (Out (Bool) (Unit))) :=
 cnd (decide (x23 < (v.length : Int))) (chk (inR x23 (v.length : Int)) <| cnd (decide (300 < (((at' v x23).fStr).length : Int))) (some (.out (.ret false))) (chk (inK .i64 (x23 + 1)) <| some (.next (x23 + 1)))) (some (.out (.go ())))

def lSmall_k1  : Option (Bool) :=
 some true

def lSmall (F : Nat) (v : (List TApiCell)) : Option (Bool) :=
 cnd (decide (300 < (v.length : Int))) (some false) (obn (lop (fun σ => lSmall_b1 v σ) F 0) (oute fun ν => lSmall_k1 ))

def lNames_b1 (v : (List Str)) (x23 : Int) : Option (Stp (Int) (Out (Bool) (Unit))) :=
 cnd (decide (x23 < (v.length : Int))) (chk (inR x23 (v.length : Int)) <| cnd (decide (300 < ((at' v x23).length : Int))) (some (.out (.ret false))) (chk (inK .i64 (x23 + 1)) <| some (.next (x23 + 1)))) (some (.out (.go ())))

def lNames_k1  : Option (Bool) :=
 some true

def lNames (F : Nat) (v : (List Str)) : Option (Bool) :=
 cnd (decide (20 < (v.length : Int))) (some false) (obn (lop (fun σ => lNames_b1 v σ) F 0) (oute fun ν => lNames_k1 ))

def lSame_b1 (F : Nat) (a : (List (List TApiCell))) (b : (List (List TApiCell))) (x33 : Int) : Option (Stp (Int) (Out (Bool) (Unit))) :=
 cnd (decide (x33 < (a.length : Int))) (chk (inR x33 (a.length : Int)) <| chk (inR x33 (b.length : Int)) <| obn (rSame F (at' a x33) (at' b x33)) fun r64 => cnd (!r64) (some (.out (.ret false))) (chk (inK .i64 (x33 + 1)) <| some (.next (x33 + 1)))) (some (.out (.go ())))

def lSame_k1  : Option (Bool) :=
 some true

def lSame (F : Nat) (a : (List (List TApiCell))) (b : (List (List TApiCell))) : Option (Bool) :=
 cnd (!decide ((a.length : Int) = (b.length : Int))) (some false) (obn (lop (fun σ => lSame_b1 F a b σ) F 0) (oute fun ν => lSame_k1 ))

def lTexts_b1 (a : (List Str)) (b : (List Str)) (x27 : Int) : Option (Stp (Int) (Out (Bool) (Unit))) :=
 cnd (decide (x27 < (a.length : Int))) (chk (inR x27 (a.length : Int)) <| chk (inR x27 (b.length : Int)) <| cnd (!decide ((at' a x27) = (at' b x27))) (some (.out (.ret false))) (chk (inK .i64 (x27 + 1)) <| some (.next (x27 + 1)))) (some (.out (.go ())))

def lTexts_k1  : Option (Bool) :=
 some true

def lTexts (F : Nat) (a : (List Str)) (b : (List Str)) : Option (Bool) :=
 cnd (!decide ((a.length : Int) = (b.length : Int))) (some false) (obn (lop (fun σ => lTexts_b1 a b σ) F 0) (oute fun ν => lTexts_k1 ))

def lAwake (F : Nat)  : Option (Bool) :=
 obn (vInt F 1) fun r1 => obn (vNull) fun r4 => obn (vList F ([r1.1, r4] : List (List TApiCell))) fun r8 => obn (vStr F ([120] : Str)) fun r11 => obn (vMap F ([([97] : Str), ([98] : Str)] : List Str) ([r8.1, r11.1] : List (List TApiCell))) fun r16 => obn (vEncode F r16.1) fun r19 => obn (vDecode F r19.1) fun r22 => chk (imp (decide (r8.2 = 0)) (imp (decide (r16.2 = 0)) (imp (decide (r19.2 = 0)) (imp (decide (r22.2 = 0)) (imp (decide ((r16.1.length : Int) = 7)) (imp (decide (r19.1 = ([123, 34, 97, 34, 58, 91, 49, 44, 110, 117, 108, 108, 93, 44, 34, 98, 34, 58, 34, 120, 34, 125] : Str))) ((vSame F r22.1 r16.1).isSome))))))) <| chk (imp (decide (r8.2 = 0)) (imp (decide (r16.2 = 0)) (imp (decide (r19.2 = 0)) (imp (decide (r22.2 = 0)) (imp (decide ((r16.1.length : Int) = 7)) (imp (decide (r19.1 = ([123, 34, 97, 34, 58, 91, 49, 44, 110, 117, 108, 108, 93, 44, 34, 98, 34, 58, 34, 120, 34, 125] : Str))) (imp ((ov (vSame F r22.1 r16.1))) ((vDepth F r16.1).isSome)))))))) <| chk (imp (decide (r8.2 = 0)) (imp (decide (r16.2 = 0)) (imp (decide (r19.2 = 0)) (imp (decide (r22.2 = 0)) (imp (decide ((r16.1.length : Int) = 7)) (imp (decide (r19.1 = ([123, 34, 97, 34, 58, 91, 49, 44, 110, 117, 108, 108, 93, 44, 34, 98, 34, 58, 34, 120, 34, 125] : Str))) (imp ((ov (vSame F r22.1 r16.1))) (imp (decide ((ov (vDepth F r16.1)) = 3)) ((vCheck F ([] : List TApiCell)).isSome))))))))) <| some ((decide (r8.2 = 0)) && ((decide (r16.2 = 0)) && ((decide (r19.2 = 0)) && ((decide (r22.2 = 0)) && ((decide ((r16.1.length : Int) = 7)) && ((decide (r19.1 = ([123, 34, 97, 34, 58, 91, 49, 44, 110, 117, 108, 108, 93, 44, 34, 98, 34, 58, 34, 120, 34, 125] : Str))) && ((ov (vSame F r22.1 r16.1)) && ((decide ((ov (vDepth F r16.1)) = 3)) && (decide ((ov (vCheck F ([] : List TApiCell))) = 1))))))))))

end Go.Proofs.YtkalifgebccpcaaGreatDoor

/-
  Walks, printed by a small program of ours (gq.py).
-/
namespace Go.Proofs.YtkalifgebccpcaaGreatDoor.Q
open Go Go.RowKit
set_option linter.unusedVariables false
set_option linter.unusedSimpArgs false
set_option maxRecDepth 100000
set_option maxHeartbeats 4000000
theorem agg_eq63 {a0 b0 : Int} {a1 b1 : Int} {a2 b2 : Str} {a3 b3 : Int} (w : World) : (Op.equalIn 10000 63 (.agg #[.int .i64 a0, .int .i64 a1, .string (B a2), .int .i64 a3]) (.agg #[.int .i64 b0, .int .i64 b1, .string (B b2), .int .i64 b3])).run Tryz.prog w = .ok (decide (a0 = b0) && decide (a1 = b1) && decide (a2 = b2) && decide (a3 = b3)) w := by
  have hS : Tryz.prog.underlying 63 = some (.struct (Tryz.prog.fieldsOf 63)) := by kernel_rfl
  have hp : Tryz.prog.stoodInHeld 63 = false := by kernel_rfl
  have u3 := Tryz.underlying3
  have ia3 := Tryz.isAgg3
  have so3 := Tryz.sizeOf3
  have u9 := Tryz.underlying9
  have ia9 := Tryz.isAgg9
  have so9 := Tryz.sizeOf9
  have u61 := Tryz.underlying61
  have ia61 := Tryz.isAgg61
  have so61 := Tryz.sizeOf61
  rw [show (10000 : Nat) = 9999 + 1 from rfl, run_equalIn_agg w 9999 63 _ _ hS hp]
  simp only [Program.fieldsOf, Tryz.underlying63]
  go_simp
  simp only [B_toList]
  by_cases h0 : a0 = b0 <;> by_cases h1 : a1 = b1 <;> by_cases h2 : a2 = b2 <;> by_cases h3 : a3 = b3 <;> simp [h0, h1, h2, h3]
theorem o_agg_ne_63 {n : Nat} {c : Cx} {l : Fr} {H : List Ent} {d : Option Nat} {ty rty : TypeId} {pos : String} {af : Array Edge} {g : Option (Nat × Bool)} {x y : Operand} {a0 b0 : Int} {a1 b1 : Int} {a2 b2 : Str} {a3 b3 : Int} (hx : ev l x = some (rAgg [rI .i64 a0, rI .i64 a1, rS a2, rI .i64 a3])) (hy : ev l y = some (rAgg [rI .i64 b0, rI .i64 b1, rS b2, rI .i64 b3])) : ORun Tryz.prog n c l H { dst := d, op := .binOp .neq 63 x y rty, type := ty, pos := pos, after := af, guard := g } (rB (!(decide (a0 = b0) && decide (a1 = b1) && decide (a2 = b2) && decide (a3 = b3)))) := fun a w Z ha hw => by
  obtain ⟨us, e1, q1⟩ := ha.ev hx
  obtain ⟨vs, e2, q2⟩ := ha.ev hy
  have k1 := RpAll.eq_rv (us := [.int .i64 a0, .int .i64 a1, .string (B a2), .int .i64 a3]) q1
  have k2 := RpAll.eq_rv (us := [.int .i64 b0, .int .i64 b1, .string (B b2), .int .i64 b3]) q2
  subst k1; subst k2
  have hm : Tryz.prog.eqGuardType Tryz.prog.depth 63 = false := by kernel_rfl
  have hb := agg_eq63 (a0 := a0) (a1 := a1) (a2 := a2) (a3 := a3) (b0 := b0) (b1 := b1) (b2 := b2) (b3 := b3) w
  refine ⟨.bool (!(decide (a0 = b0) && decide (a1 = b1) && decide (a2 = b2) && decide (a3 = b3))), rfl, ?_⟩
  have hg := run_eqGuard_agg (P := Tryz.prog) w .neq 63 x y #[.int .i64 a0, .int .i64 a1, .string (B a2), .int .i64 a3] #[.int .i64 b0, .int .i64 b1, .string (B b2), .int .i64 b3] hm
  simp only [execOp, e1, e2, Sem.run_bind, hg, Result.andThen_ok, run_neq_struct, hb, Sem.run_pure]
theorem slEqual_w (F : Nat) (a : (List TApiCell)) (b : (List TApiCell)) (r : Bool) (h : slEqual F a b = some r) : Fn Tryz.prog GE 51 [rSl 4 (List.map eTApiCell a), rSl 4 (List.map eTApiCell b)] [] (fun R H => R = rB r ∧ H = []) := by
 refine enter (n := 26) Tryz.func51 rfl Tryz.ntmps51 rfl (fun w Z => ?_)
 refine wc_as (l' := [(0, rSl 4 (List.map eTApiCell a)), (1, rSl 4 (List.map eTApiCell b))]) (H' := []) rfl rfl ?_
 unfold slEqual at h
 refine wc_sr ?_
 refine wv (r := rB false) (o_assign rfl) ?_
 refine wl_x ?_
 refine wc_seq ?_
 refine wc_sr ?_
 refine wm rfl ?_
 refine wv (o_len_zt (ys := a) (enc := eTApiCell) Tryz.underlying23 rfl) ?_
 refine wm rfl ?_
 refine wv (o_len_zt (ys := b) (enc := eTApiCell) Tryz.underlying23 rfl) ?_
 refine wv (o_ne rfl rfl) ?_
 refine wl_x ?_
 refine wc_cond (b := !decide ((a.length : Int) = (b.length : Int))) rfl (fun c1 => ?_) (fun c1 => ?_)
 ·have h2 := cnd_t c1 h
  refine wc_sr ?_
  refine wv (r := rB false) (o_assign rfl) ?_
  refine wl_x ?_
  refine wc_ret ?_
  refine wk_then_ret ?_
  obtain rfl := some_e h2
  exact wk_ret (r_1 Tryz.results51 (rv_t rfl)) sN ⟨rfl, rfl⟩
 ·have h3 := cnd_f c1 h
  refine wc_skip ?_
  refine wk_x ?_
  refine wc_seq ?_
  refine wc_sr ?_
  refine wm rfl ?_
  refine wv (o_len_zt (ys := a) (enc := eTApiCell) Tryz.underlying23 rfl) ?_
  refine wv (r := rI .i64 0) (o_move rfl) ?_
  refine wl_x ?_
  refine wc_block ?_
  obtain ⟨o40, eo41, hK42⟩ := obn_e h3
  refine wc_loop2 (S := Nat × (Int) × (Unit)) (V := (Unit) × (Unit)) 0 (fun σ => lop (fun σ => slEqual_b1 a b σ) σ.1 σ.2.1 = some o40) (fun σ => [(0, rSl 4 (List.map eTApiCell a)), (1, rSl 4 (List.map eTApiCell b)), (12, rI .i64 (a.length : Int)), (13, rI .i64 σ.2.1)]) (fun σ => []) (fun σ => σ.1) (F, 0, ()) eo41 (Sub.c rfl (Sub.c rfl (Sub.c rfl (Sub.c rfl Sub.nil)))) sN (fun σ => slEqual_k1  = some r) (fun σ => []) (fun σ => []) ?_ ?_
  ·rintro ⟨n48, x27, ⟨⟩⟩ hi46
   refine wc_as (l' := [(0, rSl 4 (List.map eTApiCell a)), (1, rSl 4 (List.map eTApiCell b)), (12, rI .i64 (a.length : Int)), (13, rI .i64 x27)]) (H' := []) rfl rfl ?_
   obtain ⟨m45, rfl, t43, h47, ht44⟩ := lop_e hi46
   replace h47 : slEqual_b1 a b x27 = some t43 := h47
   unfold slEqual_b1 at h47
   refine wc_sr ?_
   refine wv (o_lt rfl rfl) ?_
   refine wl_x ?_
   refine wc_seq ?_
   refine wc_cond (b := decide (x27 < (a.length : Int))) rfl (fun c49 => ?_) (fun c49 => ?_)
   ·have h50 := cnd_t c49 h47
    refine wc_skip ?_
    refine wk_x ?_
    refine wc_seq ?_
    refine wc_block ?_
    refine wc_sr ?_
    refine wm rfl ?_
    refine wa rfl ?_
    refine wl_x ?_
    refine wc_seq ?_
    obtain ⟨g51, h52⟩ := chk_e h50
    obtain ⟨g53, h54⟩ := chk_e h52
    refine wc_rdq [0, 1, 5, 12, 13] [⟨[], rSl 4 (List.map eTApiCell a), 0⟩, ⟨[], rI .i64 x27, 0⟩, ⟨[0, 1], rAt (eTApiCell (at' a x27)), 0⟩, ⟨[2], rAgg (eTApiCell (at' a x27)), 0⟩, ⟨[], rSl 4 (List.map eTApiCell b), 0⟩, ⟨[], rI .i64 x27, 0⟩, ⟨[4, 5], rAt (eTApiCell (at' b x27)), 0⟩, ⟨[6], rAgg (eTApiCell (at' b x27)), 0⟩, ⟨[3, 7], rB (!(decide (((at' a x27).fKind) = ((at' b x27).fKind)) && decide (((at' a x27).fInt) = ((at' b x27).fInt)) && decide (((at' a x27).fStr) = ((at' b x27).fStr)) && decide (((at' a x27).fN) = ((at' b x27).fN)))), 0⟩] [16, 17, 18, 19, 20, 21, 22, 23, 24, 0, 1, 12, 13] ?_ ?_
    ·refine oq (o_move rfl) ?_
     refine oq (o_move rfl) ?_
     refine oq (o_ix_z (enc := eTApiCell) (ys := a) Tryz.underlying23 Tryz.sizeOf63 rfl rfl g51) ?_
     refine oq (o_load_za Tryz.isAgg63 Tryz.sizeOf63 rfl rfl rfl) ?_
     refine oq (o_move rfl) ?_
     refine oq (o_move rfl) ?_
     refine oq (o_ix_z (enc := eTApiCell) (ys := b) Tryz.underlying23 Tryz.sizeOf63 rfl rfl g53) ?_
     refine oq (o_load_za Tryz.isAgg63 Tryz.sizeOf63 rfl rfl rfl) ?_
     refine oq (o_agg_ne_63 rfl rfl) ?_
     exact obl_e
    refine wk_x ?_
    refine wc_cond (b := !(decide (((at' a x27).fKind) = ((at' b x27).fKind)) && decide (((at' a x27).fInt) = ((at' b x27).fInt)) && decide (((at' a x27).fStr) = ((at' b x27).fStr)) && decide (((at' a x27).fN) = ((at' b x27).fN)))) rfl (fun c55 => ?_) (fun c55 => ?_)
    ·have h56 := cnd_t c55 h54
     refine wc_sr ?_
     refine wv (r := rB false) (o_assign rfl) ?_
     refine wl_x ?_
     refine wc_ret ?_
     refine wk_in_ret ?_
     refine wk_then_ret ?_
     refine wk_then_ret ?_
     refine wk_cut_ret ?_
     have h57 := stp_ret h56 ht44 hK42
     refine wk_in_ret ?_
     refine wk_then_ret ?_
     obtain rfl := some_e h57
     exact wk_ret (r_1 Tryz.results51 (rv_t rfl)) sN ⟨rfl, rfl⟩
    ·have h58 := cnd_f c55 h54
     refine wc_skip ?_
     refine wk_in_norm ?_
     refine wk_x ?_
     refine wc_region ?_
     obtain ⟨g59, h60⟩ := chk_e h58
     refine wv (o_add rfl rfl g59) ?_
     refine wm rfl ?_
     refine wl_nil ?_
     have h61 := stp_next h60 ht44
     exact wk_then (wk_some (m45, x27 + 1, ()) ⟨h61, Nat.lt_succ_self _⟩ (Sub.c rfl (Sub.c rfl (Sub.c rfl (Sub.c rfl Sub.nil)))) sN)
   ·have h62 := cnd_f c49 h47
    refine wc_exit ?_
    refine wk_then_exit ?_
    have h63 := stp_go h62 ht44 hK42
    exact wk_then_exit (wk_cut_hit (wk_some ((), ()) h63 Sub.nil sN))
  ·rintro ⟨⟨⟩, ⟨⟩⟩ h64
   refine wk_as (l' := []) (H' := []) rfl rfl ?_
   replace h64 : slEqual_k1  = some r := h64
   unfold slEqual_k1 at h64
   refine wk_in_hit ?_
   refine wk_x ?_
   refine wc_sr ?_
   refine wv (r := rB true) (o_assign rfl) ?_
   refine wl_x ?_
   refine wc_ret ?_
   obtain rfl := some_e h64
   exact wk_ret (r_1 Tryz.results51 (rv_t rfl)) sN ⟨rfl, rfl⟩

theorem vSame_w (F : Nat) (a : (List TApiCell)) (b : (List TApiCell)) (r : Bool) (h : vSame F a b = some r) : Fn Tryz.prog GE 28 [rSl 4 (List.map eTApiCell a), rSl 4 (List.map eTApiCell b)] [] (fun R H => R = rB r ∧ H = []) := by
 refine enter (n := 8) Tryz.func28 rfl Tryz.ntmps28 rfl (fun w Z => ?_)
 refine wc_as (l' := [(0, rSl 4 (List.map eTApiCell a)), (1, rSl 4 (List.map eTApiCell b))]) (H' := []) rfl rfl ?_
 unfold vSame at h
 refine wc_sr ?_
 refine wv (r := rB false) (o_assign rfl) ?_
 refine wl_y ?_
 refine wm rfl ?_
 refine wm rfl ?_
 obtain ⟨r1, e3, h2⟩ := obn_e h
 refine wc0 Tryz.call51 (slEqual_w F a b r1 e3) rfl ?_
 refine wa rfl ?_
 refine wl_x ?_
 refine wc_ret ?_
 obtain rfl := some_e h2
 exact wk_ret (r_1 Tryz.results28 (rv_t rfl)) sN ⟨rfl, rfl⟩

theorem rSame_w (F : Nat) (a : (List TApiCell)) (b : (List TApiCell)) (r : Bool) (h : rSame F a b = some r) : Fn Tryz.prog GE 10 [rSl 4 (List.map eTApiCell a), rSl 4 (List.map eTApiCell b)] [] (fun R H => R = rB r ∧ H = []) := by
 refine enter (n := 26) Tryz.func10 rfl Tryz.ntmps10 rfl (fun w Z => ?_)
 refine wc_as (l' := [(0, rSl 4 (List.map eTApiCell a)), (1, rSl 4 (List.map eTApiCell b))]) (H' := []) rfl rfl ?_
 unfold rSame at h
 refine wc_sr ?_
 refine wv (r := rB false) (o_assign rfl) ?_
 refine wl_x ?_
 refine wc_seq ?_
 refine wc_sr ?_
 refine wm rfl ?_
 refine wv (o_len_zt (ys := a) (enc := eTApiCell) Tryz.underlying23 rfl) ?_
 refine wm rfl ?_
 refine wv (o_len_zt (ys := b) (enc := eTApiCell) Tryz.underlying23 rfl) ?_
 refine wv (o_ne rfl rfl) ?_
 refine wl_x ?_
 refine wc_cond (b := !decide ((a.length : Int) = (b.length : Int))) rfl (fun c1 => ?_) (fun c1 => ?_)
 ·have h2 := cnd_t c1 h
  refine wc_sr ?_
  refine wv (r := rB false) (o_assign rfl) ?_
  refine wl_x ?_
  refine wc_ret ?_
  refine wk_then_ret ?_
  obtain rfl := some_e h2
  exact wk_ret (r_1 Tryz.results10 (rv_t rfl)) sN ⟨rfl, rfl⟩
 ·have h3 := cnd_f c1 h
  refine wc_skip ?_
  refine wk_x ?_
  refine wc_seq ?_
  refine wc_sr ?_
  refine wv (r := rI .i64 0) (o_assign rfl) ?_
  refine wl_x ?_
  refine wc_block ?_
  obtain ⟨o40, eo41, hK42⟩ := obn_e h3
  refine wc_loop2 (S := Nat × (Int) × (Unit)) (V := (Unit) × (Unit)) 0 (fun σ => lop (fun σ => rSame_b1 a b σ) σ.1 σ.2.1 = some o40) (fun σ => [(0, rSl 4 (List.map eTApiCell a)), (1, rSl 4 (List.map eTApiCell b)), (5, rI .i64 σ.2.1)]) (fun σ => []) (fun σ => σ.1) (F, 0, ()) eo41 (Sub.c rfl (Sub.c rfl (Sub.c rfl Sub.nil))) sN (fun σ => rSame_k1  = some r) (fun σ => []) (fun σ => []) ?_ ?_
  ·rintro ⟨n48, x27, ⟨⟩⟩ hi46
   refine wc_as (l' := [(0, rSl 4 (List.map eTApiCell a)), (1, rSl 4 (List.map eTApiCell b)), (5, rI .i64 x27)]) (H' := []) rfl rfl ?_
   obtain ⟨m45, rfl, t43, h47, ht44⟩ := lop_e hi46
   replace h47 : rSame_b1 a b x27 = some t43 := h47
   unfold rSame_b1 at h47
   refine wc_seq ?_
   refine wc_sr ?_
   refine wm rfl ?_
   refine wm rfl ?_
   refine wv (o_len_zt (ys := a) (enc := eTApiCell) Tryz.underlying23 rfl) ?_
   refine wv (o_lt rfl rfl) ?_
   refine wl_x ?_
   refine wc_cond (b := decide (x27 < (a.length : Int))) rfl (fun c49 => ?_) (fun c49 => ?_)
   ·have h50 := cnd_t c49 h47
    refine wc_skip ?_
    refine wk_x ?_
    refine wc_seq ?_
    refine wc_block ?_
    refine wc_seq ?_
    obtain ⟨g51, h52⟩ := chk_e h50
    obtain ⟨g53, h54⟩ := chk_e h52
    refine wc_rdq [0, 1, 5] [⟨[], rSl 4 (List.map eTApiCell a), 0⟩, ⟨[], rI .i64 x27, 0⟩, ⟨[0, 1], rAt (eTApiCell (at' a x27)), 0⟩, ⟨[2], rAgg (eTApiCell (at' a x27)), 0⟩, ⟨[], rSl 4 (List.map eTApiCell b), 0⟩, ⟨[], rI .i64 x27, 0⟩, ⟨[4, 5], rAt (eTApiCell (at' b x27)), 0⟩, ⟨[6], rAgg (eTApiCell (at' b x27)), 0⟩, ⟨[3, 7], rB (!(decide (((at' a x27).fKind) = ((at' b x27).fKind)) && decide (((at' a x27).fInt) = ((at' b x27).fInt)) && decide (((at' a x27).fStr) = ((at' b x27).fStr)) && decide (((at' a x27).fN) = ((at' b x27).fN)))), 0⟩] [17, 18, 19, 20, 21, 22, 23, 24, 25, 0, 1, 5] ?_ ?_
    ·refine oq (o_move rfl) ?_
     refine oq (o_move rfl) ?_
     refine oq (o_ix_z (enc := eTApiCell) (ys := a) Tryz.underlying23 Tryz.sizeOf63 rfl rfl g51) ?_
     refine oq (o_load_za Tryz.isAgg63 Tryz.sizeOf63 rfl rfl rfl) ?_
     refine oq (o_move rfl) ?_
     refine oq (o_move rfl) ?_
     refine oq (o_ix_z (enc := eTApiCell) (ys := b) Tryz.underlying23 Tryz.sizeOf63 rfl rfl g53) ?_
     refine oq (o_load_za Tryz.isAgg63 Tryz.sizeOf63 rfl rfl rfl) ?_
     refine oq (o_agg_ne_63 rfl rfl) ?_
     exact obl_e
    refine wk_x ?_
    refine wc_cond (b := !(decide (((at' a x27).fKind) = ((at' b x27).fKind)) && decide (((at' a x27).fInt) = ((at' b x27).fInt)) && decide (((at' a x27).fStr) = ((at' b x27).fStr)) && decide (((at' a x27).fN) = ((at' b x27).fN)))) rfl (fun c55 => ?_) (fun c55 => ?_)
    ·have h56 := cnd_t c55 h54
     refine wc_sr ?_
     refine wv (r := rB false) (o_assign rfl) ?_
     refine wl_x ?_
     refine wc_ret ?_
     refine wk_in_ret ?_
     refine wk_then_ret ?_
     refine wk_then_ret ?_
     refine wk_cut_ret ?_
     have h57 := stp_ret h56 ht44 hK42
     refine wk_in_ret ?_
     refine wk_then_ret ?_
     obtain rfl := some_e h57
     exact wk_ret (r_1 Tryz.results10 (rv_t rfl)) sN ⟨rfl, rfl⟩
    ·have h58 := cnd_f c55 h54
     refine wc_skip ?_
     refine wk_in_norm ?_
     refine wk_x ?_
     refine wc_region ?_
     refine wm rfl ?_
     obtain ⟨g59, h60⟩ := chk_e h58
     refine wv (o_add rfl rfl g59) ?_
     refine wa rfl ?_
     refine wl_nil ?_
     have h61 := stp_next h60 ht44
     exact wk_then (wk_some (m45, x27 + 1, ()) ⟨h61, Nat.lt_succ_self _⟩ (Sub.c rfl (Sub.c rfl (Sub.c rfl Sub.nil))) sN)
   ·have h62 := cnd_f c49 h47
    refine wc_exit ?_
    refine wk_then_exit ?_
    have h63 := stp_go h62 ht44 hK42
    exact wk_then_exit (wk_cut_hit (wk_some ((), ()) h63 Sub.nil sN))
  ·rintro ⟨⟨⟩, ⟨⟩⟩ h64
   refine wk_as (l' := []) (H' := []) rfl rfl ?_
   replace h64 : rSame_k1  = some r := h64
   unfold rSame_k1 at h64
   refine wk_in_hit ?_
   refine wk_x ?_
   refine wc_sr ?_
   refine wv (r := rB true) (o_assign rfl) ?_
   refine wl_x ?_
   refine wc_ret ?_
   obtain rfl := some_e h64
   exact wk_ret (r_1 Tryz.results10 (rv_t rfl)) sN ⟨rfl, rfl⟩

theorem lSmall_w (F : Nat) (v : (List TApiCell)) (r : Bool) (h : lSmall F v = some r) : Fn Tryz.prog GE 25 [rSl 4 (List.map eTApiCell v)] [] (fun R H => R = rB r ∧ H = []) := by
 refine enter (n := 20) Tryz.func25 rfl Tryz.ntmps25 rfl (fun w Z => ?_)
 refine wc_as (l' := [(0, rSl 4 (List.map eTApiCell v))]) (H' := []) rfl rfl ?_
 unfold lSmall at h
 refine wc_sr ?_
 refine wv (r := rB false) (o_assign rfl) ?_
 refine wl_x ?_
 refine wc_seq ?_
 refine wc_sr ?_
 refine wm rfl ?_
 refine wv (o_len_zt (ys := v) (enc := eTApiCell) Tryz.underlying23 rfl) ?_
 refine wv (o_gt rfl rfl) ?_
 refine wl_x ?_
 refine wc_cond (b := decide (300 < (v.length : Int))) rfl (fun c1 => ?_) (fun c1 => ?_)
 ·have h2 := cnd_t c1 h
  refine wc_sr ?_
  refine wv (r := rB false) (o_assign rfl) ?_
  refine wl_x ?_
  refine wc_ret ?_
  refine wk_then_ret ?_
  obtain rfl := some_e h2
  exact wk_ret (r_1 Tryz.results25 (rv_t rfl)) sN ⟨rfl, rfl⟩
 ·have h3 := cnd_f c1 h
  refine wc_skip ?_
  refine wk_x ?_
  refine wc_seq ?_
  refine wc_sr ?_
  refine wm rfl ?_
  refine wv (o_len_zt (ys := v) (enc := eTApiCell) Tryz.underlying23 rfl) ?_
  refine wv (r := rI .i64 0) (o_move rfl) ?_
  refine wl_x ?_
  refine wc_block ?_
  obtain ⟨o34, eo35, hK36⟩ := obn_e h3
  refine wc_loop2 (S := Nat × (Int) × (Unit)) (V := (Unit) × (Unit)) 0 (fun σ => lop (fun σ => lSmall_b1 v σ) σ.1 σ.2.1 = some o34) (fun σ => [(0, rSl 4 (List.map eTApiCell v)), (2, rB false), (8, rI .i64 (v.length : Int)), (9, rI .i64 σ.2.1)]) (fun σ => []) (fun σ => σ.1) (F, 0, ()) eo35 (Sub.c rfl (Sub.c rfl (Sub.c rfl (Sub.c rfl Sub.nil)))) sN (fun σ => lSmall_k1  = some r) (fun σ => [(2, rB false)]) (fun σ => []) ?_ ?_
  ·rintro ⟨n42, x23, ⟨⟩⟩ hi40
   refine wc_as (l' := [(0, rSl 4 (List.map eTApiCell v)), (2, rB false), (8, rI .i64 (v.length : Int)), (9, rI .i64 x23)]) (H' := []) rfl rfl ?_
   obtain ⟨m39, rfl, t37, h41, ht38⟩ := lop_e hi40
   replace h41 : lSmall_b1 v x23 = some t37 := h41
   unfold lSmall_b1 at h41
   refine wc_sr ?_
   refine wv (o_lt rfl rfl) ?_
   refine wl_x ?_
   refine wc_seq ?_
   refine wc_cond (b := decide (x23 < (v.length : Int))) rfl (fun c43 => ?_) (fun c43 => ?_)
   ·have h44 := cnd_t c43 h41
    refine wc_skip ?_
    refine wk_x ?_
    refine wc_seq ?_
    refine wc_block ?_
    refine wc_sr ?_
    refine wm rfl ?_
    refine wa rfl ?_
    refine wl_y ?_
    refine wm rfl ?_
    refine wm rfl ?_
    obtain ⟨g45, h46⟩ := chk_e h44
    refine wv (o_ix_z (enc := eTApiCell) (ys := v) Tryz.underlying23 Tryz.sizeOf63 rfl rfl g45) ?_
    refine wv (o_fieldAddr_z Tryz.underlying63 rfl Tryz.sizeOf9 rfl rfl) ?_
    refine wv (o_load_z Tryz.isAgg9 rfl rfl) ?_
    refine wv (o_len_s Tryz.underlying9 rfl) ?_
    refine wv (o_gt rfl rfl) ?_
    refine wl_x ?_
    refine wc_cond (b := decide (300 < (((at' v x23).fStr).length : Int))) rfl (fun c47 => ?_) (fun c47 => ?_)
    ·have h48 := cnd_t c47 h46
     refine wc_sr ?_
     refine wv (r := rB false) (o_assign rfl) ?_
     refine wl_x ?_
     refine wc_ret ?_
     refine wk_in_ret ?_
     refine wk_then_ret ?_
     refine wk_then_ret ?_
     refine wk_cut_ret ?_
     have h49 := stp_ret h48 ht38 hK36
     refine wk_in_ret ?_
     refine wk_then_ret ?_
     obtain rfl := some_e h49
     exact wk_ret (r_1 Tryz.results25 (rv_t rfl)) sN ⟨rfl, rfl⟩
    ·have h50 := cnd_f c47 h46
     refine wc_skip ?_
     refine wk_in_norm ?_
     refine wk_x ?_
     refine wc_region ?_
     obtain ⟨g51, h52⟩ := chk_e h50
     refine wv (o_add rfl rfl g51) ?_
     refine wm rfl ?_
     refine wl_nil ?_
     have h53 := stp_next h52 ht38
     exact wk_then (wk_some (m39, x23 + 1, ()) ⟨h53, Nat.lt_succ_self _⟩ (Sub.c rfl (Sub.c rfl (Sub.c rfl (Sub.c rfl Sub.nil)))) sN)
   ·have h54 := cnd_f c43 h41
    refine wc_exit ?_
    refine wk_then_exit ?_
    have h55 := stp_go h54 ht38 hK36
    exact wk_then_exit (wk_cut_hit (wk_some ((), ()) h55 (Sub.c rfl Sub.nil) sN))
  ·rintro ⟨⟨⟩, ⟨⟩⟩ h56
   refine wk_as (l' := [(2, rB false)]) (H' := []) rfl rfl ?_
   replace h56 : lSmall_k1  = some r := h56
   unfold lSmall_k1 at h56
   refine wk_in_hit ?_
   refine wk_x ?_
   refine wc_sr ?_
   refine wv (r := rB true) (o_assign rfl) ?_
   refine wl_x ?_
   refine wc_ret ?_
   obtain rfl := some_e h56
   exact wk_ret (r_1 Tryz.results25 (rv_t rfl)) sN ⟨rfl, rfl⟩

theorem lNames_w (F : Nat) (v : (List Str)) (r : Bool) (h : lNames F v = some r) : Fn Tryz.prog GE 11 [rSl 1 (List.map eS v)] [] (fun R H => R = rB r ∧ H = []) := by
 refine enter (n := 19) Tryz.func11 rfl Tryz.ntmps11 rfl (fun w Z => ?_)
 refine wc_as (l' := [(0, rSl 1 (List.map eS v))]) (H' := []) rfl rfl ?_
 unfold lNames at h
 refine wc_sr ?_
 refine wv (r := rB false) (o_assign rfl) ?_
 refine wl_x ?_
 refine wc_seq ?_
 refine wc_sr ?_
 refine wm rfl ?_
 refine wv (o_len_zt (ys := v) (enc := eS) Tryz.underlying29 rfl) ?_
 refine wv (o_gt rfl rfl) ?_
 refine wl_x ?_
 refine wc_cond (b := decide (20 < (v.length : Int))) rfl (fun c1 => ?_) (fun c1 => ?_)
 ·have h2 := cnd_t c1 h
  refine wc_sr ?_
  refine wv (r := rB false) (o_assign rfl) ?_
  refine wl_x ?_
  refine wc_ret ?_
  refine wk_then_ret ?_
  obtain rfl := some_e h2
  exact wk_ret (r_1 Tryz.results11 (rv_t rfl)) sN ⟨rfl, rfl⟩
 ·have h3 := cnd_f c1 h
  refine wc_skip ?_
  refine wk_x ?_
  refine wc_seq ?_
  refine wc_sr ?_
  refine wm rfl ?_
  refine wv (o_len_zt (ys := v) (enc := eS) Tryz.underlying29 rfl) ?_
  refine wv (r := rI .i64 0) (o_move rfl) ?_
  refine wl_x ?_
  refine wc_block ?_
  obtain ⟨o34, eo35, hK36⟩ := obn_e h3
  refine wc_loop2 (S := Nat × (Int) × (Unit)) (V := (Unit) × (Unit)) 0 (fun σ => lop (fun σ => lNames_b1 v σ) σ.1 σ.2.1 = some o34) (fun σ => [(0, rSl 1 (List.map eS v)), (2, rB false), (8, rI .i64 (v.length : Int)), (9, rI .i64 σ.2.1)]) (fun σ => []) (fun σ => σ.1) (F, 0, ()) eo35 (Sub.c rfl (Sub.c rfl (Sub.c rfl (Sub.c rfl Sub.nil)))) sN (fun σ => lNames_k1  = some r) (fun σ => [(2, rB false)]) (fun σ => []) ?_ ?_
  ·rintro ⟨n42, x23, ⟨⟩⟩ hi40
   refine wc_as (l' := [(0, rSl 1 (List.map eS v)), (2, rB false), (8, rI .i64 (v.length : Int)), (9, rI .i64 x23)]) (H' := []) rfl rfl ?_
   obtain ⟨m39, rfl, t37, h41, ht38⟩ := lop_e hi40
   replace h41 : lNames_b1 v x23 = some t37 := h41
   unfold lNames_b1 at h41
   refine wc_sr ?_
   refine wv (o_lt rfl rfl) ?_
   refine wl_x ?_
   refine wc_seq ?_
   refine wc_cond (b := decide (x23 < (v.length : Int))) rfl (fun c43 => ?_) (fun c43 => ?_)
   ·have h44 := cnd_t c43 h41
    refine wc_skip ?_
    refine wk_x ?_
    refine wc_seq ?_
    refine wc_block ?_
    refine wc_sr ?_
    refine wm rfl ?_
    refine wa rfl ?_
    refine wl_y ?_
    refine wm rfl ?_
    refine wm rfl ?_
    obtain ⟨g45, h46⟩ := chk_e h44
    refine wv (o_ix_z (enc := eS) (ys := v) Tryz.underlying29 Tryz.sizeOf9 rfl rfl g45) ?_
    refine wv (o_load_z Tryz.isAgg9 rfl rfl) ?_
    refine wv (o_len_s Tryz.underlying9 rfl) ?_
    refine wv (o_gt rfl rfl) ?_
    refine wl_x ?_
    refine wc_cond (b := decide (300 < ((at' v x23).length : Int))) rfl (fun c47 => ?_) (fun c47 => ?_)
    ·have h48 := cnd_t c47 h46
     refine wc_sr ?_
     refine wv (r := rB false) (o_assign rfl) ?_
     refine wl_x ?_
     refine wc_ret ?_
     refine wk_in_ret ?_
     refine wk_then_ret ?_
     refine wk_then_ret ?_
     refine wk_cut_ret ?_
     have h49 := stp_ret h48 ht38 hK36
     refine wk_in_ret ?_
     refine wk_then_ret ?_
     obtain rfl := some_e h49
     exact wk_ret (r_1 Tryz.results11 (rv_t rfl)) sN ⟨rfl, rfl⟩
    ·have h50 := cnd_f c47 h46
     refine wc_skip ?_
     refine wk_in_norm ?_
     refine wk_x ?_
     refine wc_region ?_
     obtain ⟨g51, h52⟩ := chk_e h50
     refine wv (o_add rfl rfl g51) ?_
     refine wm rfl ?_
     refine wl_nil ?_
     have h53 := stp_next h52 ht38
     exact wk_then (wk_some (m39, x23 + 1, ()) ⟨h53, Nat.lt_succ_self _⟩ (Sub.c rfl (Sub.c rfl (Sub.c rfl (Sub.c rfl Sub.nil)))) sN)
   ·have h54 := cnd_f c43 h41
    refine wc_exit ?_
    refine wk_then_exit ?_
    have h55 := stp_go h54 ht38 hK36
    exact wk_then_exit (wk_cut_hit (wk_some ((), ()) h55 (Sub.c rfl Sub.nil) sN))
  ·rintro ⟨⟨⟩, ⟨⟩⟩ h56
   refine wk_as (l' := [(2, rB false)]) (H' := []) rfl rfl ?_
   replace h56 : lNames_k1  = some r := h56
   unfold lNames_k1 at h56
   refine wk_in_hit ?_
   refine wk_x ?_
   refine wc_sr ?_
   refine wv (r := rB true) (o_assign rfl) ?_
   refine wl_x ?_
   refine wc_ret ?_
   obtain rfl := some_e h56
   exact wk_ret (r_1 Tryz.results11 (rv_t rfl)) sN ⟨rfl, rfl⟩

theorem lSame_w (F : Nat) (a : (List (List TApiCell))) (b : (List (List TApiCell))) (r : Bool) (h : lSame F a b = some r) : Fn Tryz.prog GE 39 [rSl 1 (List.map eL_TApiCell a), rSl 1 (List.map eL_TApiCell b)] [] (fun R H => R = rB r ∧ H = []) := by
 refine enter (n := 27) Tryz.func39 rfl Tryz.ntmps39 rfl (fun w Z => ?_)
 refine wc_as (l' := [(0, rSl 1 (List.map eL_TApiCell a)), (1, rSl 1 (List.map eL_TApiCell b))]) (H' := []) rfl rfl ?_
 unfold lSame at h
 refine wc_sr ?_
 refine wv (r := rB false) (o_assign rfl) ?_
 refine wl_x ?_
 refine wc_seq ?_
 refine wc_sr ?_
 refine wm rfl ?_
 refine wv (o_len_zt (ys := a) (enc := eL_TApiCell) Tryz.underlying30 rfl) ?_
 refine wm rfl ?_
 refine wv (o_len_zt (ys := b) (enc := eL_TApiCell) Tryz.underlying30 rfl) ?_
 refine wv (o_ne rfl rfl) ?_
 refine wl_x ?_
 refine wc_cond (b := !decide ((a.length : Int) = (b.length : Int))) rfl (fun c1 => ?_) (fun c1 => ?_)
 ·have h2 := cnd_t c1 h
  refine wc_sr ?_
  refine wv (r := rB false) (o_assign rfl) ?_
  refine wl_x ?_
  refine wc_ret ?_
  refine wk_then_ret ?_
  obtain rfl := some_e h2
  exact wk_ret (r_1 Tryz.results39 (rv_t rfl)) sN ⟨rfl, rfl⟩
 ·have h3 := cnd_f c1 h
  refine wc_skip ?_
  refine wk_x ?_
  refine wc_seq ?_
  refine wc_sr ?_
  refine wm rfl ?_
  refine wv (o_len_zt (ys := a) (enc := eL_TApiCell) Tryz.underlying30 rfl) ?_
  refine wv (r := rI .i64 0) (o_move rfl) ?_
  refine wl_x ?_
  refine wc_block ?_
  obtain ⟨o49, eo50, hK51⟩ := obn_e h3
  refine wc_loop2 (S := Nat × (Int) × (Unit)) (V := (Unit) × (Unit)) 0 (fun σ => lop (fun σ => lSame_b1 F a b σ) σ.1 σ.2.1 = some o49) (fun σ => [(0, rSl 1 (List.map eL_TApiCell a)), (1, rSl 1 (List.map eL_TApiCell b)), (12, rI .i64 (a.length : Int)), (13, rI .i64 σ.2.1)]) (fun σ => []) (fun σ => σ.1) (F, 0, ()) eo50 (Sub.c rfl (Sub.c rfl (Sub.c rfl (Sub.c rfl Sub.nil)))) sN (fun σ => lSame_k1  = some r) (fun σ => []) (fun σ => []) ?_ ?_
  ·rintro ⟨n57, x33, ⟨⟩⟩ hi55
   refine wc_as (l' := [(0, rSl 1 (List.map eL_TApiCell a)), (1, rSl 1 (List.map eL_TApiCell b)), (12, rI .i64 (a.length : Int)), (13, rI .i64 x33)]) (H' := []) rfl rfl ?_
   obtain ⟨m54, rfl, t52, h56, ht53⟩ := lop_e hi55
   replace h56 : lSame_b1 F a b x33 = some t52 := h56
   unfold lSame_b1 at h56
   refine wc_sr ?_
   refine wv (o_lt rfl rfl) ?_
   refine wl_x ?_
   refine wc_seq ?_
   refine wc_cond (b := decide (x33 < (a.length : Int))) rfl (fun c58 => ?_) (fun c58 => ?_)
   ·have h59 := cnd_t c58 h56
    refine wc_skip ?_
    refine wk_x ?_
    refine wc_seq ?_
    refine wc_block ?_
    refine wc_sr ?_
    refine wm rfl ?_
    refine wa rfl ?_
    refine wl_x ?_
    refine wc_seq ?_
    obtain ⟨g60, h61⟩ := chk_e h59
    obtain ⟨g62, h63⟩ := chk_e h61
    obtain ⟨r64, e66, h65⟩ := obn_e h63
    refine wc_rdq [0, 1, 5, 12, 13] [⟨[], rSl 1 (List.map eL_TApiCell a), 0⟩, ⟨[], rI .i64 x33, 0⟩, ⟨[0, 1], rAt [rSl 4 (List.map eTApiCell (at' a x33))], 0⟩, ⟨[2], rSl 4 (List.map eTApiCell (at' a x33)), 0⟩, ⟨[], rSl 1 (List.map eL_TApiCell b), 0⟩, ⟨[], rI .i64 x33, 0⟩, ⟨[4, 5], rAt [rSl 4 (List.map eTApiCell (at' b x33))], 0⟩, ⟨[6], rSl 4 (List.map eTApiCell (at' b x33)), 0⟩, ⟨[3, 7], rB r64, 0⟩, ⟨[8], rB (!r64), 0⟩] [16, 17, 18, 19, 20, 21, 22, 23, 24, 25, 0, 1, 12, 13] ?_ ?_
    ·refine oq (o_move rfl) ?_
     refine oq (o_move rfl) ?_
     refine oq (o_ix_z (enc := eL_TApiCell) (ys := a) Tryz.underlying30 Tryz.sizeOf23 rfl rfl g60) ?_
     refine oq (o_load_z Tryz.isAgg23 rfl rfl) ?_
     refine oq (o_move rfl) ?_
     refine oq (o_move rfl) ?_
     refine oq (o_ix_z (enc := eL_TApiCell) (ys := b) Tryz.underlying30 Tryz.sizeOf23 rfl rfl g62) ?_
     refine oq (o_load_z Tryz.isAgg23 rfl rfl) ?_
     refine obl_q rfl (fun H => ok_c0 Tryz.call10 (rSame_w F (at' a x33) (at' b x33) r64 e66) rfl) ?_
     refine oq (o_not rfl) ?_
     exact obl_e
    refine wk_x ?_
    refine wc_cond (b := !r64) rfl (fun c67 => ?_) (fun c67 => ?_)
    ·have h68 := cnd_t c67 h65
     refine wc_sr ?_
     refine wv (r := rB false) (o_assign rfl) ?_
     refine wl_x ?_
     refine wc_ret ?_
     refine wk_in_ret ?_
     refine wk_then_ret ?_
     refine wk_then_ret ?_
     refine wk_cut_ret ?_
     have h69 := stp_ret h68 ht53 hK51
     refine wk_in_ret ?_
     refine wk_then_ret ?_
     obtain rfl := some_e h69
     exact wk_ret (r_1 Tryz.results39 (rv_t rfl)) sN ⟨rfl, rfl⟩
    ·have h70 := cnd_f c67 h65
     refine wc_skip ?_
     refine wk_in_norm ?_
     refine wk_x ?_
     refine wc_region ?_
     obtain ⟨g71, h72⟩ := chk_e h70
     refine wv (o_add rfl rfl g71) ?_
     refine wm rfl ?_
     refine wl_nil ?_
     have h73 := stp_next h72 ht53
     exact wk_then (wk_some (m54, x33 + 1, ()) ⟨h73, Nat.lt_succ_self _⟩ (Sub.c rfl (Sub.c rfl (Sub.c rfl (Sub.c rfl Sub.nil)))) sN)
   ·have h74 := cnd_f c58 h56
    refine wc_exit ?_
    refine wk_then_exit ?_
    have h75 := stp_go h74 ht53 hK51
    exact wk_then_exit (wk_cut_hit (wk_some ((), ()) h75 Sub.nil sN))
  ·rintro ⟨⟨⟩, ⟨⟩⟩ h76
   refine wk_as (l' := []) (H' := []) rfl rfl ?_
   replace h76 : lSame_k1  = some r := h76
   unfold lSame_k1 at h76
   refine wk_in_hit ?_
   refine wk_x ?_
   refine wc_sr ?_
   refine wv (r := rB true) (o_assign rfl) ?_
   refine wl_x ?_
   refine wc_ret ?_
   obtain rfl := some_e h76
   exact wk_ret (r_1 Tryz.results39 (rv_t rfl)) sN ⟨rfl, rfl⟩

theorem lTexts_w (F : Nat) (a : (List Str)) (b : (List Str)) (r : Bool) (h : lTexts F a b = some r) : Fn Tryz.prog GE 40 [rSl 1 (List.map eS a), rSl 1 (List.map eS b)] [] (fun R H => R = rB r ∧ H = []) := by
 refine enter (n := 26) Tryz.func40 rfl Tryz.ntmps40 rfl (fun w Z => ?_)
 refine wc_as (l' := [(0, rSl 1 (List.map eS a)), (1, rSl 1 (List.map eS b))]) (H' := []) rfl rfl ?_
 unfold lTexts at h
 refine wc_sr ?_
 refine wv (r := rB false) (o_assign rfl) ?_
 refine wl_x ?_
 refine wc_seq ?_
 refine wc_sr ?_
 refine wm rfl ?_
 refine wv (o_len_zt (ys := a) (enc := eS) Tryz.underlying29 rfl) ?_
 refine wm rfl ?_
 refine wv (o_len_zt (ys := b) (enc := eS) Tryz.underlying29 rfl) ?_
 refine wv (o_ne rfl rfl) ?_
 refine wl_x ?_
 refine wc_cond (b := !decide ((a.length : Int) = (b.length : Int))) rfl (fun c1 => ?_) (fun c1 => ?_)
 ·have h2 := cnd_t c1 h
  refine wc_sr ?_
  refine wv (r := rB false) (o_assign rfl) ?_
  refine wl_x ?_
  refine wc_ret ?_
  refine wk_then_ret ?_
  obtain rfl := some_e h2
  exact wk_ret (r_1 Tryz.results40 (rv_t rfl)) sN ⟨rfl, rfl⟩
 ·have h3 := cnd_f c1 h
  refine wc_skip ?_
  refine wk_x ?_
  refine wc_seq ?_
  refine wc_sr ?_
  refine wm rfl ?_
  refine wv (o_len_zt (ys := a) (enc := eS) Tryz.underlying29 rfl) ?_
  refine wv (r := rI .i64 0) (o_move rfl) ?_
  refine wl_x ?_
  refine wc_block ?_
  obtain ⟨o40, eo41, hK42⟩ := obn_e h3
  refine wc_loop2 (S := Nat × (Int) × (Unit)) (V := (Unit) × (Unit)) 0 (fun σ => lop (fun σ => lTexts_b1 a b σ) σ.1 σ.2.1 = some o40) (fun σ => [(0, rSl 1 (List.map eS a)), (1, rSl 1 (List.map eS b)), (12, rI .i64 (a.length : Int)), (13, rI .i64 σ.2.1)]) (fun σ => []) (fun σ => σ.1) (F, 0, ()) eo41 (Sub.c rfl (Sub.c rfl (Sub.c rfl (Sub.c rfl Sub.nil)))) sN (fun σ => lTexts_k1  = some r) (fun σ => []) (fun σ => []) ?_ ?_
  ·rintro ⟨n48, x27, ⟨⟩⟩ hi46
   refine wc_as (l' := [(0, rSl 1 (List.map eS a)), (1, rSl 1 (List.map eS b)), (12, rI .i64 (a.length : Int)), (13, rI .i64 x27)]) (H' := []) rfl rfl ?_
   obtain ⟨m45, rfl, t43, h47, ht44⟩ := lop_e hi46
   replace h47 : lTexts_b1 a b x27 = some t43 := h47
   unfold lTexts_b1 at h47
   refine wc_sr ?_
   refine wv (o_lt rfl rfl) ?_
   refine wl_x ?_
   refine wc_seq ?_
   refine wc_cond (b := decide (x27 < (a.length : Int))) rfl (fun c49 => ?_) (fun c49 => ?_)
   ·have h50 := cnd_t c49 h47
    refine wc_skip ?_
    refine wk_x ?_
    refine wc_seq ?_
    refine wc_block ?_
    refine wc_sr ?_
    refine wm rfl ?_
    refine wa rfl ?_
    refine wl_x ?_
    refine wc_seq ?_
    obtain ⟨g51, h52⟩ := chk_e h50
    obtain ⟨g53, h54⟩ := chk_e h52
    refine wc_rdq [0, 1, 5, 12, 13] [⟨[], rSl 1 (List.map eS a), 0⟩, ⟨[], rI .i64 x27, 0⟩, ⟨[0, 1], rAt [rS (at' a x27)], 0⟩, ⟨[2], rS (at' a x27), 0⟩, ⟨[], rSl 1 (List.map eS b), 0⟩, ⟨[], rI .i64 x27, 0⟩, ⟨[4, 5], rAt [rS (at' b x27)], 0⟩, ⟨[6], rS (at' b x27), 0⟩, ⟨[3, 7], rB (!decide ((at' a x27) = (at' b x27))), 0⟩] [16, 17, 18, 19, 20, 21, 22, 23, 24, 0, 1, 12, 13] ?_ ?_
    ·refine oq (o_move rfl) ?_
     refine oq (o_move rfl) ?_
     refine oq (o_ix_z (enc := eS) (ys := a) Tryz.underlying29 Tryz.sizeOf9 rfl rfl g51) ?_
     refine oq (o_load_z Tryz.isAgg9 rfl rfl) ?_
     refine oq (o_move rfl) ?_
     refine oq (o_move rfl) ?_
     refine oq (o_ix_z (enc := eS) (ys := b) Tryz.underlying29 Tryz.sizeOf9 rfl rfl g53) ?_
     refine oq (o_load_z Tryz.isAgg9 rfl rfl) ?_
     refine oq (o_sne rfl rfl) ?_
     exact obl_e
    refine wk_x ?_
    refine wc_cond (b := !decide ((at' a x27) = (at' b x27))) rfl (fun c55 => ?_) (fun c55 => ?_)
    ·have h56 := cnd_t c55 h54
     refine wc_sr ?_
     refine wv (r := rB false) (o_assign rfl) ?_
     refine wl_x ?_
     refine wc_ret ?_
     refine wk_in_ret ?_
     refine wk_then_ret ?_
     refine wk_then_ret ?_
     refine wk_cut_ret ?_
     have h57 := stp_ret h56 ht44 hK42
     refine wk_in_ret ?_
     refine wk_then_ret ?_
     obtain rfl := some_e h57
     exact wk_ret (r_1 Tryz.results40 (rv_t rfl)) sN ⟨rfl, rfl⟩
    ·have h58 := cnd_f c55 h54
     refine wc_skip ?_
     refine wk_in_norm ?_
     refine wk_x ?_
     refine wc_region ?_
     obtain ⟨g59, h60⟩ := chk_e h58
     refine wv (o_add rfl rfl g59) ?_
     refine wm rfl ?_
     refine wl_nil ?_
     have h61 := stp_next h60 ht44
     exact wk_then (wk_some (m45, x27 + 1, ()) ⟨h61, Nat.lt_succ_self _⟩ (Sub.c rfl (Sub.c rfl (Sub.c rfl (Sub.c rfl Sub.nil)))) sN)
   ·have h62 := cnd_f c49 h47
    refine wc_exit ?_
    refine wk_then_exit ?_
    have h63 := stp_go h62 ht44 hK42
    exact wk_then_exit (wk_cut_hit (wk_some ((), ()) h63 Sub.nil sN))
  ·rintro ⟨⟨⟩, ⟨⟩⟩ h64
   refine wk_as (l' := []) (H' := []) rfl rfl ?_
   replace h64 : lTexts_k1  = some r := h64
   unfold lTexts_k1 at h64
   refine wk_in_hit ?_
   refine wk_x ?_
   refine wc_sr ?_
   refine wv (r := rB true) (o_assign rfl) ?_
   refine wl_x ?_
   refine wc_ret ?_
   obtain rfl := some_e h64
   exact wk_ret (r_1 Tryz.results40 (rv_t rfl)) sN ⟨rfl, rfl⟩

theorem lAwake_w (F : Nat)  (r : Bool) (h : lAwake F = some r) : Fn Tryz.prog GE 7 [] [] (fun R H => R = rB r ∧ H = []) := by
 refine enter (n := 83) Tryz.func7 rfl Tryz.ntmps7 rfl (fun w Z => ?_)
 refine wc_as (l' := []) (H' := []) rfl rfl ?_
 unfold lAwake at h
 refine wc_sr ?_
 refine wv (r := rB false) (o_assign rfl) ?_
 refine wl_y ?_
 obtain ⟨r1, e3, h2⟩ := obn_e h
 refine wc0 Tryz.call13 (vInt_w F 1 r1 e3) rfl ?_
 refine wm rfl ?_
 refine wv (o_extract rfl rfl) ?_
 refine wv (o_extract rfl rfl) ?_
 refine wa rfl ?_
 refine wa rfl ?_
 refine wl_y ?_
 refine wm rfl ?_
 obtain ⟨r4, e6, h5⟩ := obn_e h2
 refine wc0 Tryz.call21 (vNull_w r4 e6) rfl ?_
 refine w_buildSlice (ys := ([r1.1, r4] : List (List TApiCell))) (enc := eL_TApiCell) (css := [[rSl 4 (List.map eTApiCell r1.1)], [rSl 4 (List.map eTApiCell r4)]]) (xs := [.tmp 18, .tmp 19]) Tryz.underlying30 Tryz.sizeOf23 Tryz.zeroValue23 rfl rfl rfl ⟨Cel.one rfl (Up.refl _), Cel.one rfl (Up.refl _), trivial⟩ rfl eL_TApiCell_len rfl rfl rfl (fun b7 => ?_)
 refine WL.freeze (i := 0) rfl ?_
 refine WL.up (d := 20) (r := rSl 1 (List.map eL_TApiCell ([r1.1, r4] : List (List TApiCell)))) rfl (Up.fact (i := 0) rfl) ?_
 obtain ⟨r8, e10, h9⟩ := obn_e h5
 refine wc0 Tryz.call17 (vList_w F ([r1.1, r4] : List (List TApiCell)) r8 e10) rfl ?_
 refine wm rfl ?_
 refine wv (o_extract rfl rfl) ?_
 refine wv (o_extract rfl rfl) ?_
 refine wa rfl ?_
 refine wa rfl ?_
 refine wl_y ?_
 obtain ⟨r11, e13, h12⟩ := obn_e h9
 refine wc0 Tryz.call15 (vStr_w F ([120] : Str) r11 e13) rfl ?_
 refine wm rfl ?_
 refine wv (o_extract rfl rfl) ?_
 refine wv (o_extract rfl rfl) ?_
 refine wa rfl ?_
 refine wa rfl ?_
 refine wl_y ?_
 refine w_buildSlice (ys := ([([97] : Str), ([98] : Str)] : List Str)) (enc := eS) (css := [[rS ([97] : Str)], [rS ([98] : Str)]]) (xs := [.const (.string ⟨#[97]⟩), .const (.string ⟨#[98]⟩)]) Tryz.underlying29 Tryz.sizeOf9 Tryz.zeroValue9 rfl rfl rfl ⟨Cel.one rfl (Up.refl _), Cel.one rfl (Up.refl _), trivial⟩ rfl eS_len rfl rfl rfl (fun b14 => ?_)
 refine wm rfl ?_
 refine wm rfl ?_
 refine w_buildSlice (ys := ([r8.1, r11.1] : List (List TApiCell))) (enc := eL_TApiCell) (css := [[rSl 4 (List.map eTApiCell r8.1)], [rSl 4 (List.map eTApiCell r11.1)]]) (xs := [.tmp 30, .tmp 31]) Tryz.underlying30 Tryz.sizeOf23 Tryz.zeroValue23 rfl rfl rfl ⟨Cel.one rfl (Up.refl _), Cel.one rfl (Up.refl _), trivial⟩ rfl eL_TApiCell_len rfl rfl rfl (fun b15 => ?_)
 refine WL.freeze (i := 1) rfl ?_
 refine WL.up (d := 29) (r := rSl 1 (List.map eS ([([97] : Str), ([98] : Str)] : List Str))) rfl (Up.fact (i := 0) rfl) ?_
 refine WL.freeze (i := 1) rfl ?_
 refine WL.up (d := 32) (r := rSl 1 (List.map eL_TApiCell ([r8.1, r11.1] : List (List TApiCell)))) rfl (Up.fact (i := 0) rfl) ?_
 obtain ⟨r16, e18, h17⟩ := obn_e h12
 refine wc0 Tryz.call19 (vMap_w F ([([97] : Str), ([98] : Str)] : List Str) ([r8.1, r11.1] : List (List TApiCell)) r16 e18) rfl ?_
 refine wm rfl ?_
 refine wv (o_extract rfl rfl) ?_
 refine wv (o_extract rfl rfl) ?_
 refine wa rfl ?_
 refine wa rfl ?_
 refine wl_y ?_
 refine wm rfl ?_
 obtain ⟨r19, e21, h20⟩ := obn_e h17
 refine wc0 Tryz.call41 (vEncode_w F r16.1 r19 e21) rfl ?_
 refine wm rfl ?_
 refine wv (o_extract rfl rfl) ?_
 refine wv (o_extract rfl rfl) ?_
 refine wa rfl ?_
 refine wa rfl ?_
 refine wl_y ?_
 refine wm rfl ?_
 obtain ⟨r22, e24, h23⟩ := obn_e h20
 refine wc0 Tryz.call8 (vDecode_w F r19.1 r22 e24) rfl ?_
 refine wm rfl ?_
 refine wv (o_extract rfl rfl) ?_
 refine wv (o_extract rfl rfl) ?_
 refine wa rfl ?_
 refine wa rfl ?_
 refine wl_x ?_
 obtain ⟨g25, h26⟩ := chk_e h23
 obtain ⟨g27, h28⟩ := chk_e h26
 obtain ⟨g29, h30⟩ := chk_e h28
 refine wc_seq_mid [(0, rB ((decide (r8.2 = 0)) && ((decide (r16.2 = 0)) && ((decide (r19.2 = 0)) && ((decide (r22.2 = 0)) && ((decide ((r16.1.length : Int) = 7)) && ((decide (r19.1 = ([123, 34, 97, 34, 58, 91, 49, 44, 110, 117, 108, 108, 93, 44, 34, 98, 34, 58, 34, 120, 34, 125] : Str))) && ((ov (vSame F r22.1 r16.1)) && ((decide ((ov (vDepth F r16.1)) = 3)) && (decide ((ov (vCheck F ([] : List TApiCell))) = 1)))))))))))] [] ?_ ?_
 ·refine wc_region ?_
  refine wm rfl ?_
  refine wv (o_eq rfl rfl) ?_
  refine wm rfl ?_
  refine bsplit (decide (r8.2 = 0)) (fun c31 => ?_) (fun c31 => ?_)
  ·refine wo c31 ?_
   refine wm rfl ?_
   refine wo c31 ?_
   refine wv (o_eq rfl rfl) ?_
   refine wpt rfl c31 rfl ?_
   refine wm rfl ?_
   refine bsplit (decide (r16.2 = 0)) (fun c32 => ?_) (fun c32 => ?_)
   ·refine wo c32 ?_
    refine wm rfl ?_
    refine wo c32 ?_
    refine wv (o_eq rfl rfl) ?_
    refine wpt rfl c32 rfl ?_
    refine wm rfl ?_
    refine bsplit (decide (r19.2 = 0)) (fun c33 => ?_) (fun c33 => ?_)
    ·refine wo c33 ?_
     refine wm rfl ?_
     refine wo c33 ?_
     refine wv (o_eq rfl rfl) ?_
     refine wpt rfl c33 rfl ?_
     refine wm rfl ?_
     refine bsplit (decide (r22.2 = 0)) (fun c34 => ?_) (fun c34 => ?_)
     ·refine wo c34 ?_
      refine wm rfl ?_
      refine wo c34 ?_
      refine wv (o_len_zt (ys := r16.1) (enc := eTApiCell) Tryz.underlying23 rfl) ?_
      refine wo c34 ?_
      refine wv (o_eq rfl rfl) ?_
      refine wpt rfl c34 rfl ?_
      refine wm rfl ?_
      refine bsplit (decide ((r16.1.length : Int) = 7)) (fun c35 => ?_) (fun c35 => ?_)
      ·refine wo c35 ?_
       refine wm rfl ?_
       refine wo c35 ?_
       refine wv (o_seq rfl rfl) ?_
       refine wpt rfl c35 rfl ?_
       refine wm rfl ?_
       refine bsplit (decide (r19.1 = ([123, 34, 97, 34, 58, 91, 49, 44, 110, 117, 108, 108, 93, 44, 34, 98, 34, 58, 34, 120, 34, 125] : Str))) (fun c36 => ?_) (fun c36 => ?_)
       ·refine wo c36 ?_
        refine wm rfl ?_
        refine wo c36 ?_
        refine wm rfl ?_
        refine wo c36 ?_
        refine wc0 Tryz.call28 (vSame_w F r22.1 r16.1 (ov (vSame F r22.1 r16.1)) (ov_e (imp_t (imp_t (imp_t (imp_t (imp_t (imp_t g25 c31) c32) c33) c34) c35) c36))) rfl ?_
        refine wpt rfl c36 rfl ?_
        refine wm rfl ?_
        refine bsplit ((ov (vSame F r22.1 r16.1))) (fun c37 => ?_) (fun c37 => ?_)
        ·refine wo c37 ?_
         refine wm rfl ?_
         refine wo c37 ?_
         refine wc0 Tryz.call42 (vDepth_w F r16.1 (ov (vDepth F r16.1)) (ov_e (imp_t (imp_t (imp_t (imp_t (imp_t (imp_t (imp_t g27 c31) c32) c33) c34) c35) c36) c37))) rfl ?_
         refine wo c37 ?_
         refine wv (o_eq rfl rfl) ?_
         refine wpt rfl c37 rfl ?_
         refine wm rfl ?_
         refine bsplit (decide ((ov (vDepth F r16.1)) = 3)) (fun c38 => ?_) (fun c38 => ?_)
         ·refine wo c38 ?_
          refine w_call0 (rs := [rv (.slice none 0 0)]) (r := rI .i64 (ov (vCheck F ([] : List TApiCell)))) Tryz.call43 rfl (Fn.args (vCheck_w F ([] : List TApiCell) (ov (vCheck F ([] : List TApiCell))) (ov_e (imp_t (imp_t (imp_t (imp_t (imp_t (imp_t (imp_t (imp_t g29 c31) c32) c33) c34) c35) c36) c37) c38))) ⟨Rle.nil _, trivial⟩) rfl rfl ?_
          refine wo c38 ?_
          refine wv (o_eq rfl rfl) ?_
          refine wpt rfl c38 rfl ?_
          refine wa rfl ?_
          refine wl_nil ?_
          exact wtc (And.intro c31 (And.intro c32 (And.intro c33 (And.intro c34 (And.intro c35 (And.intro c36 (And.intro c37 c38)))))))
         ·refine wf c38 ?_
          refine wf c38 ?_
          refine wv (r := rB false) (o_pick_f (b := decide ((ov (vDepth F r16.1)) = 3)) rfl c38 rfl) ?_
          refine wa rfl ?_
          refine wl_nil ?_
          exact wtc (And.intro c31 (And.intro c32 (And.intro c33 (And.intro c34 (And.intro c35 (And.intro c36 (And.intro c37 c38)))))))
        ·refine wf c37 ?_
         refine wf c37 ?_
         refine wf c37 ?_
         refine wv (r := rB false) (o_pick_f (b := (ov (vSame F r22.1 r16.1))) rfl c37 rfl) ?_
         refine wm rfl ?_
         refine wl_off (b := false) rfl rfl rfl rfl ?_
         refine wl_off (b := false) rfl rfl rfl rfl ?_
         refine wv (r := rB false) (o_pick_f (b := false) rfl rfl rfl) ?_
         refine wa rfl ?_
         refine wl_nil ?_
         exact wtc (And.intro c31 (And.intro c32 (And.intro c33 (And.intro c34 (And.intro c35 (And.intro c36 c37))))))
       ·refine wf c36 ?_
        refine wf c36 ?_
        refine wf c36 ?_
        refine wv (r := rB false) (o_pick_f (b := decide (r19.1 = ([123, 34, 97, 34, 58, 91, 49, 44, 110, 117, 108, 108, 93, 44, 34, 98, 34, 58, 34, 120, 34, 125] : Str))) rfl c36 rfl) ?_
        refine wm rfl ?_
        refine wl_off (b := false) rfl rfl rfl rfl ?_
        refine wl_off (b := false) rfl rfl rfl rfl ?_
        refine wl_off (b := false) rfl rfl rfl rfl ?_
        refine wv (r := rB false) (o_pick_f (b := false) rfl rfl rfl) ?_
        refine wm rfl ?_
        refine wl_off (b := false) rfl rfl rfl rfl ?_
        refine wl_off (b := false) rfl rfl rfl rfl ?_
        refine wv (r := rB false) (o_pick_f (b := false) rfl rfl rfl) ?_
        refine wa rfl ?_
        refine wl_nil ?_
        exact wtc (And.intro c31 (And.intro c32 (And.intro c33 (And.intro c34 (And.intro c35 c36)))))
      ·refine wf c35 ?_
       refine wf c35 ?_
       refine wv (r := rB false) (o_pick_f (b := decide ((r16.1.length : Int) = 7)) rfl c35 rfl) ?_
       refine wm rfl ?_
       refine wl_off (b := false) rfl rfl rfl rfl ?_
       refine wl_off (b := false) rfl rfl rfl rfl ?_
       refine wl_off (b := false) rfl rfl rfl rfl ?_
       refine wv (r := rB false) (o_pick_f (b := false) rfl rfl rfl) ?_
       refine wm rfl ?_
       refine wl_off (b := false) rfl rfl rfl rfl ?_
       refine wl_off (b := false) rfl rfl rfl rfl ?_
       refine wl_off (b := false) rfl rfl rfl rfl ?_
       refine wv (r := rB false) (o_pick_f (b := false) rfl rfl rfl) ?_
       refine wm rfl ?_
       refine wl_off (b := false) rfl rfl rfl rfl ?_
       refine wl_off (b := false) rfl rfl rfl rfl ?_
       refine wv (r := rB false) (o_pick_f (b := false) rfl rfl rfl) ?_
       refine wa rfl ?_
       refine wl_nil ?_
       exact wtc (And.intro c31 (And.intro c32 (And.intro c33 (And.intro c34 c35))))
     ·refine wf c34 ?_
      refine wf c34 ?_
      refine wf c34 ?_
      refine wv (r := rB false) (o_pick_f (b := decide (r22.2 = 0)) rfl c34 rfl) ?_
      refine wm rfl ?_
      refine wl_off (b := false) rfl rfl rfl rfl ?_
      refine wl_off (b := false) rfl rfl rfl rfl ?_
      refine wv (r := rB false) (o_pick_f (b := false) rfl rfl rfl) ?_
      refine wm rfl ?_
      refine wl_off (b := false) rfl rfl rfl rfl ?_
      refine wl_off (b := false) rfl rfl rfl rfl ?_
      refine wl_off (b := false) rfl rfl rfl rfl ?_
      refine wv (r := rB false) (o_pick_f (b := false) rfl rfl rfl) ?_
      refine wm rfl ?_
      refine wl_off (b := false) rfl rfl rfl rfl ?_
      refine wl_off (b := false) rfl rfl rfl rfl ?_
      refine wl_off (b := false) rfl rfl rfl rfl ?_
      refine wv (r := rB false) (o_pick_f (b := false) rfl rfl rfl) ?_
      refine wm rfl ?_
      refine wl_off (b := false) rfl rfl rfl rfl ?_
      refine wl_off (b := false) rfl rfl rfl rfl ?_
      refine wv (r := rB false) (o_pick_f (b := false) rfl rfl rfl) ?_
      refine wa rfl ?_
      refine wl_nil ?_
      exact wtc (And.intro c31 (And.intro c32 (And.intro c33 c34)))
    ·refine wf c33 ?_
     refine wf c33 ?_
     refine wv (r := rB false) (o_pick_f (b := decide (r19.2 = 0)) rfl c33 rfl) ?_
     refine wm rfl ?_
     refine wl_off (b := false) rfl rfl rfl rfl ?_
     refine wl_off (b := false) rfl rfl rfl rfl ?_
     refine wl_off (b := false) rfl rfl rfl rfl ?_
     refine wv (r := rB false) (o_pick_f (b := false) rfl rfl rfl) ?_
     refine wm rfl ?_
     refine wl_off (b := false) rfl rfl rfl rfl ?_
     refine wl_off (b := false) rfl rfl rfl rfl ?_
     refine wv (r := rB false) (o_pick_f (b := false) rfl rfl rfl) ?_
     refine wm rfl ?_
     refine wl_off (b := false) rfl rfl rfl rfl ?_
     refine wl_off (b := false) rfl rfl rfl rfl ?_
     refine wl_off (b := false) rfl rfl rfl rfl ?_
     refine wv (r := rB false) (o_pick_f (b := false) rfl rfl rfl) ?_
     refine wm rfl ?_
     refine wl_off (b := false) rfl rfl rfl rfl ?_
     refine wl_off (b := false) rfl rfl rfl rfl ?_
     refine wl_off (b := false) rfl rfl rfl rfl ?_
     refine wv (r := rB false) (o_pick_f (b := false) rfl rfl rfl) ?_
     refine wm rfl ?_
     refine wl_off (b := false) rfl rfl rfl rfl ?_
     refine wl_off (b := false) rfl rfl rfl rfl ?_
     refine wv (r := rB false) (o_pick_f (b := false) rfl rfl rfl) ?_
     refine wa rfl ?_
     refine wl_nil ?_
     exact wtc (And.intro c31 (And.intro c32 c33))
   ·refine wf c32 ?_
    refine wf c32 ?_
    refine wv (r := rB false) (o_pick_f (b := decide (r16.2 = 0)) rfl c32 rfl) ?_
    refine wm rfl ?_
    refine wl_off (b := false) rfl rfl rfl rfl ?_
    refine wl_off (b := false) rfl rfl rfl rfl ?_
    refine wv (r := rB false) (o_pick_f (b := false) rfl rfl rfl) ?_
    refine wm rfl ?_
    refine wl_off (b := false) rfl rfl rfl rfl ?_
    refine wl_off (b := false) rfl rfl rfl rfl ?_
    refine wl_off (b := false) rfl rfl rfl rfl ?_
    refine wv (r := rB false) (o_pick_f (b := false) rfl rfl rfl) ?_
    refine wm rfl ?_
    refine wl_off (b := false) rfl rfl rfl rfl ?_
    refine wl_off (b := false) rfl rfl rfl rfl ?_
    refine wv (r := rB false) (o_pick_f (b := false) rfl rfl rfl) ?_
    refine wm rfl ?_
    refine wl_off (b := false) rfl rfl rfl rfl ?_
    refine wl_off (b := false) rfl rfl rfl rfl ?_
    refine wl_off (b := false) rfl rfl rfl rfl ?_
    refine wv (r := rB false) (o_pick_f (b := false) rfl rfl rfl) ?_
    refine wm rfl ?_
    refine wl_off (b := false) rfl rfl rfl rfl ?_
    refine wl_off (b := false) rfl rfl rfl rfl ?_
    refine wl_off (b := false) rfl rfl rfl rfl ?_
    refine wv (r := rB false) (o_pick_f (b := false) rfl rfl rfl) ?_
    refine wm rfl ?_
    refine wl_off (b := false) rfl rfl rfl rfl ?_
    refine wl_off (b := false) rfl rfl rfl rfl ?_
    refine wv (r := rB false) (o_pick_f (b := false) rfl rfl rfl) ?_
    refine wa rfl ?_
    refine wl_nil ?_
    exact wtc (And.intro c31 c32)
  ·refine wf c31 ?_
   refine wf c31 ?_
   refine wv (r := rB false) (o_pick_f (b := decide (r8.2 = 0)) rfl c31 rfl) ?_
   refine wm rfl ?_
   refine wl_off (b := false) rfl rfl rfl rfl ?_
   refine wl_off (b := false) rfl rfl rfl rfl ?_
   refine wv (r := rB false) (o_pick_f (b := false) rfl rfl rfl) ?_
   refine wm rfl ?_
   refine wl_off (b := false) rfl rfl rfl rfl ?_
   refine wl_off (b := false) rfl rfl rfl rfl ?_
   refine wv (r := rB false) (o_pick_f (b := false) rfl rfl rfl) ?_
   refine wm rfl ?_
   refine wl_off (b := false) rfl rfl rfl rfl ?_
   refine wl_off (b := false) rfl rfl rfl rfl ?_
   refine wl_off (b := false) rfl rfl rfl rfl ?_
   refine wv (r := rB false) (o_pick_f (b := false) rfl rfl rfl) ?_
   refine wm rfl ?_
   refine wl_off (b := false) rfl rfl rfl rfl ?_
   refine wl_off (b := false) rfl rfl rfl rfl ?_
   refine wv (r := rB false) (o_pick_f (b := false) rfl rfl rfl) ?_
   refine wm rfl ?_
   refine wl_off (b := false) rfl rfl rfl rfl ?_
   refine wl_off (b := false) rfl rfl rfl rfl ?_
   refine wl_off (b := false) rfl rfl rfl rfl ?_
   refine wv (r := rB false) (o_pick_f (b := false) rfl rfl rfl) ?_
   refine wm rfl ?_
   refine wl_off (b := false) rfl rfl rfl rfl ?_
   refine wl_off (b := false) rfl rfl rfl rfl ?_
   refine wl_off (b := false) rfl rfl rfl rfl ?_
   refine wv (r := rB false) (o_pick_f (b := false) rfl rfl rfl) ?_
   refine wm rfl ?_
   refine wl_off (b := false) rfl rfl rfl rfl ?_
   refine wl_off (b := false) rfl rfl rfl rfl ?_
   refine wv (r := rB false) (o_pick_f (b := false) rfl rfl rfl) ?_
   refine wa rfl ?_
   refine wl_nil ?_
   exact wtc c31
 refine wc_ret ?_
 obtain rfl := some_e h30
 exact wk_ret (r_1 Tryz.results7 (rv_t rfl)) sN ⟨rfl, rfl⟩

end Go.Proofs.YtkalifgebccpcaaGreatDoor.Q

/-
 What functions compute, with checks: plain definitions, printed by a small program of ours (gq.py). No program in sight.
-/
namespace Go.Proofs.YtkalifgebccpcaaGreatDoor
open Go
set_option linter.unusedVariables false
def rChecked (F : Nat) (v : (List TApiCell)) : Option ((List TApiCell) × Int) :=
 obn (rCheck F v) fun r1 => cnd (!decide (r1 = 0)) (some (([] : List TApiCell), r1)) (some (v, 0))

def rMap_b1 (F : Nat) (keys : (List Str)) (l : (List (List TApiCell))) (x50 : (List TApiCell)) (x52 : Int) : Option (Stp ((List TApiCell) × Int) (Out ((List TApiCell) × Int) ((List TApiCell)))) :=
 cnd (decide (x52 < (l.length : Int))) (chk (inR x52 (l.length : Int)) <| obn (rCheck F (at' l x52)) fun r90 => cnd (!decide (r90 = 0)) (some (.out (.ret (([] : List TApiCell), r90)))) (chk (inR x52 (keys.length : Int)) <| chk (inA 40 (x50.length + ([(TApiCell.mk 4 0 (at' keys x52) 0)] : List TApiCell).length)) <| chk (inA 40 ((x50 ++ ([(TApiCell.mk 4 0 (at' keys x52) 0)] : List TApiCell)).length + (at' l x52).length)) <| chk (inK .i64 (x52 + 1)) <| some (.next ((x50 ++ ([(TApiCell.mk 4 0 (at' keys x52) 0)] : List TApiCell)) ++ (at' l x52), x52 + 1)))) (some (.out (.go x50)))

def rMap_k1 (F : Nat) (x75 : (List TApiCell)) : Option ((List TApiCell) × Int) :=
 obn (rChecked F x75) fun r112 => some (r112.1, r112.2)

def rMap (F : Nat) (keys : (List Str)) (l : (List (List TApiCell))) : Option ((List TApiCell) × Int) :=
 cnd (!decide ((keys.length : Int) = (l.length : Int))) (some (([] : List TApiCell), 1)) (obn (lop (fun σ => rMap_b1 F keys l σ.1 σ.2) F (([(TApiCell.mk 6 0 ([] : Str) (l.length : Int))] : List TApiCell), 0)) (oute fun ν => rMap_k1 F ν))

end Go.Proofs.YtkalifgebccpcaaGreatDoor

/-
  Walks, printed by a small program of ours (gq.py).
-/
namespace Go.Proofs.YtkalifgebccpcaaGreatDoor.Q
open Go Go.RowKit
set_option linter.unusedVariables false
set_option linter.unusedSimpArgs false
set_option maxRecDepth 100000
set_option maxHeartbeats 4000000
theorem rChecked_w (F : Nat) (v : (List TApiCell)) (r : (List TApiCell) × Int) (h : rChecked F v = some r) : Fn Tryz.prog GE 47 [rSl 4 (List.map eTApiCell v)] [] (fun R H => R = rTup [rSl 4 (List.map eTApiCell r.1), rI .i64 r.2] ∧ H = []) := by
 refine enter (n := 11) Tryz.func47 rfl Tryz.ntmps47 rfl (fun w Z => ?_)
 refine wc_as (l' := [(0, rSl 4 (List.map eTApiCell v))]) (H' := []) rfl rfl ?_
 unfold rChecked at h
 refine wc_sr ?_
 refine wv (r := rv (.slice none 0 0)) (o_assign rfl) ?_
 refine wv (r := rI .i64 0) (o_assign rfl) ?_
 refine wl_y ?_
 refine wm rfl ?_
 obtain ⟨r1, e3, h2⟩ := obn_e h
 refine wc0 Tryz.call48 (rCheck_w F v r1 e3) rfl ?_
 refine wa rfl ?_
 refine wl_x ?_
 refine wc_seq ?_
 refine wc_sr ?_
 refine wm rfl ?_
 refine wv (o_ne rfl rfl) ?_
 refine wl_x ?_
 refine wc_cond (b := !decide (r1 = 0)) rfl (fun c4 => ?_) (fun c4 => ?_)
 ·have h5 := cnd_t c4 h2
  refine wc_sr ?_
  refine wm rfl ?_
  refine wv (r := rv (.slice none 0 0)) (o_assign rfl) ?_
  refine wa rfl ?_
  refine wl_x ?_
  refine wc_ret ?_
  refine wk_then_ret ?_
  refine WK.up (d := 2) (r := rSl 4 (List.map eTApiCell ([] : List TApiCell))) rfl (Up.le (Rle.nil _)) ?_
  obtain rfl := some_e h5
  exact wk_ret (r_2 Tryz.results47 (rv_t rfl) (rv_t rfl)) sN ⟨rfl, rfl⟩
 ·have h6 := cnd_f c4 h2
  refine wc_skip ?_
  refine wk_x ?_
  refine wc_sr ?_
  refine wm rfl ?_
  refine wa rfl ?_
  refine wv (r := rI .i64 0) (o_assign rfl) ?_
  refine wl_x ?_
  refine wc_ret ?_
  obtain rfl := some_e h6
  exact wk_ret (r_2 Tryz.results47 (rv_t rfl) (rv_t rfl)) sN ⟨rfl, rfl⟩

theorem rMap_w (F : Nat) (keys : (List Str)) (l : (List (List TApiCell))) (r : (List TApiCell) × Int) (h : rMap F keys l = some r) : Fn Tryz.prog GE 20 [rSl 1 (List.map eS keys), rSl 1 (List.map eL_TApiCell l)] [] (fun R H => R = rTup [rSl 4 (List.map eTApiCell r.1), rI .i64 r.2] ∧ H = []) := by
 refine enter (n := 50) Tryz.func20 rfl Tryz.ntmps20 rfl (fun w Z => ?_)
 refine wc_as (l' := [(0, rSl 1 (List.map eS keys)), (1, rSl 1 (List.map eL_TApiCell l))]) (H' := []) rfl rfl ?_
 unfold rMap at h
 refine wc_sr ?_
 refine wv (r := rv (.slice none 0 0)) (o_assign rfl) ?_
 refine wv (r := rI .i64 0) (o_assign rfl) ?_
 refine wl_x ?_
 refine wc_seq ?_
 refine wc_sr ?_
 refine wm rfl ?_
 refine wv (o_len_zt (ys := keys) (enc := eS) Tryz.underlying29 rfl) ?_
 refine wm rfl ?_
 refine wv (o_len_zt (ys := l) (enc := eL_TApiCell) Tryz.underlying30 rfl) ?_
 refine wv (o_ne rfl rfl) ?_
 refine wl_x ?_
 refine wc_cond (b := !decide ((keys.length : Int) = (l.length : Int))) rfl (fun c1 => ?_) (fun c1 => ?_)
 ·have h2 := cnd_t c1 h
  refine wc_sr ?_
  refine wv (r := rv (.slice none 0 0)) (o_assign rfl) ?_
  refine wv (r := rI .i64 1) (o_assign rfl) ?_
  refine wl_x ?_
  refine wc_ret ?_
  refine wk_then_ret ?_
  refine WK.up (d := 4) (r := rSl 4 (List.map eTApiCell ([] : List TApiCell))) rfl (Up.le (Rle.nil _)) ?_
  obtain rfl := some_e h2
  exact wk_ret (r_2 Tryz.results20 (rv_t rfl) (rv_t rfl)) sN ⟨rfl, rfl⟩
 ·have h3 := cnd_f c1 h
  refine wc_skip ?_
  refine wk_x ?_
  refine wc_sr ?_
  refine wm rfl ?_
  refine wv (o_len_zt (ys := l) (enc := eL_TApiCell) Tryz.underlying30 rfl) ?_
  refine wv (r := rAgg [rI .i64 6, rI .i64 0, rS ([] : Str), rI .i64 (l.length : Int)]) (o_build63_0_3 rfl rfl rfl rfl) ?_
  refine w_buildSlice (ys := ([(TApiCell.mk 6 0 ([] : Str) (l.length : Int))] : List TApiCell)) (enc := eTApiCell) (css := [[rI .i64 6, rI .i64 0, rS ([] : Str), rI .i64 (l.length : Int)]]) (xs := [.tmp 16]) Tryz.underlying23 Tryz.sizeOf63 Tryz.zeroValue63 rfl rfl rfl ⟨Cel.agg ⟨Up.refl _, Up.refl _, Up.refl _, Up.refl _, trivial⟩, trivial⟩ rfl eTApiCell_len rfl rfl rfl (fun b4 => ?_)
  refine wa rfl ?_
  refine wl_x ?_
  refine wc_seq ?_
  refine wc_sr ?_
  refine wv (r := rI .i64 0) (o_assign rfl) ?_
  refine wl_x ?_
  refine wc_block ?_
  obtain ⟨o77, eo78, hK79⟩ := obn_e h3
  refine wc_loop2 (S := Nat × ((List TApiCell) × Int) × (Value)) (V := ((List TApiCell)) × (Value)) 0 (fun σ => lop (fun σ => rMap_b1 F keys l σ.1 σ.2) σ.1 σ.2.1 = some o77) (fun σ => [(0, rSl 1 (List.map eS keys)), (1, rSl 1 (List.map eL_TApiCell l)), (4, rv (.slice none 0 0)), (5, rI .i64 0), (6, rv σ.2.2), (7, rI .i64 σ.2.1.2)]) (fun σ => [.row σ.2.2 63 4 (List.map eTApiCell σ.2.1.1)]) (fun σ => σ.1) (F, (([(TApiCell.mk 6 0 ([] : Str) (l.length : Int))] : List TApiCell), 0), (.slice (some ⟨b4, 0, none⟩) 1 1)) eo78 (Sub.c rfl (Sub.c5 rfl rfl rfl rfl rfl Sub.nil)) (sC sN) (fun σ => rMap_k1 F σ.1 = some r) (fun σ => [(4, rv (.slice none 0 0)), (5, rI .i64 0), (6, rv σ.2)]) (fun σ => [.row σ.2 63 4 (List.map eTApiCell σ.1)]) ?_ ?_
  ·rintro ⟨n85, ⟨x50, x52⟩, v51⟩ hi83
   refine wc_as (l' := [(0, rSl 1 (List.map eS keys)), (1, rSl 1 (List.map eL_TApiCell l)), (4, rv (.slice none 0 0)), (5, rI .i64 0), (6, rv v51), (7, rI .i64 x52)]) (H' := [.row v51 63 4 (List.map eTApiCell x50)]) rfl rfl ?_
   obtain ⟨m82, rfl, t80, h84, ht81⟩ := lop_e hi83
   replace h84 : rMap_b1 F keys l x50 x52 = some t80 := h84
   unfold rMap_b1 at h84
   refine wc_seq ?_
   refine wc_sr ?_
   refine wm rfl ?_
   refine wm rfl ?_
   refine wv (o_len_zt (ys := l) (enc := eL_TApiCell) Tryz.underlying30 rfl) ?_
   refine wv (o_lt rfl rfl) ?_
   refine wl_x ?_
   refine wc_cond (b := decide (x52 < (l.length : Int))) rfl (fun c86 => ?_) (fun c86 => ?_)
   ·have h87 := cnd_t c86 h84
    refine wc_skip ?_
    refine wk_x ?_
    refine wc_seq ?_
    refine wc_block ?_
    refine wc_sr ?_
    refine wm rfl ?_
    refine wm rfl ?_
    obtain ⟨g88, h89⟩ := chk_e h87
    refine wv (o_ix_z (enc := eL_TApiCell) (ys := l) Tryz.underlying30 Tryz.sizeOf23 rfl rfl g88) ?_
    refine wv (o_load_z Tryz.isAgg23 rfl rfl) ?_
    obtain ⟨r90, e92, h91⟩ := obn_e h89
    refine wc0 Tryz.call48 (rCheck_w F (at' l x52) r90 e92) rfl ?_
    refine wa rfl ?_
    refine wl_x ?_
    refine wc_seq ?_
    refine wc_sr ?_
    refine wm rfl ?_
    refine wv (o_ne rfl rfl) ?_
    refine wl_x ?_
    refine wc_cond (b := !decide (r90 = 0)) rfl (fun c93 => ?_) (fun c93 => ?_)
    ·have h94 := cnd_t c93 h91
     refine wc_sr ?_
     refine wm rfl ?_
     refine wv (r := rv (.slice none 0 0)) (o_assign rfl) ?_
     refine wa rfl ?_
     refine wl_x ?_
     refine wc_ret ?_
     refine wk_then_ret ?_
     refine wk_in_ret ?_
     refine wk_then_ret ?_
     refine wk_then_ret ?_
     refine wk_cut_ret ?_
     have h95 := stp_ret h94 ht81 hK79
     refine wk_in_ret ?_
     refine wk_then_ret ?_
     refine WK.up (d := 4) (r := rSl 4 (List.map eTApiCell ([] : List TApiCell))) rfl (Up.le (Rle.nil _)) ?_
     obtain rfl := some_e h95
     exact wk_ret (r_2 Tryz.results20 (rv_t rfl) (rv_t rfl)) (sS sN) ⟨rfl, rfl⟩
    ·have h96 := cnd_f c93 h91
     refine wc_skip ?_
     refine wk_x ?_
     refine wc_sr ?_
     refine wm rfl ?_
     refine wm rfl ?_
     refine wm rfl ?_
     obtain ⟨g97, h98⟩ := chk_e h96
     refine wv (o_ix_z (enc := eS) (ys := keys) Tryz.underlying29 Tryz.sizeOf9 rfl rfl g97) ?_
     refine wv (o_load_z Tryz.isAgg9 rfl rfl) ?_
     refine wv (r := rAgg [rI .i64 4, rI .i64 0, rS (at' keys x52), rI .i64 0]) (o_build63_0_2 rfl rfl rfl rfl) ?_
     refine w_buildSlice (ys := ([(TApiCell.mk 4 0 (at' keys x52) 0)] : List TApiCell)) (enc := eTApiCell) (css := [[rI .i64 4, rI .i64 0, rS (at' keys x52), rI .i64 0]]) (xs := [.tmp 37]) Tryz.underlying23 Tryz.sizeOf63 Tryz.zeroValue63 rfl rfl rfl ⟨Cel.agg ⟨Up.refl _, Up.refl _, Up.refl _, Up.refl _, trivial⟩, trivial⟩ rfl eTApiCell_len rfl rfl rfl (fun b99 => ?_)
     obtain ⟨g101, h102⟩ := chk_e h98
     obtain ⟨inf, hinf⟩ := info63
     refine w_append (xs := x50) (ys := ([(TApiCell.mk 4 0 (at' keys x52) 0)] : List TApiCell)) (enc := eTApiCell) (i := 1) Tryz.underlying23 hinf.1 hinf.2.1 hinf.2.2.1 hinf.2.2.2 rfl rfl rfl rfl rfl (Src.w (i := 0) rfl rfl) eTApiCell_len eTApiCell_one g101 rfl (fun v100 => ?_)
     refine wa rfl ?_
     refine wl_x ?_
     refine wc_region ?_
     refine wm rfl ?_
     refine wm rfl ?_
     refine wm rfl ?_
     refine wv (o_ix_z (enc := eL_TApiCell) (ys := l) Tryz.underlying30 Tryz.sizeOf23 rfl rfl g88) ?_
     refine wv (o_load_z Tryz.isAgg23 rfl rfl) ?_
     obtain ⟨g104, h105⟩ := chk_e h102
     obtain ⟨inf, hinf⟩ := info63
     refine w_append (xs := x50 ++ ([(TApiCell.mk 4 0 (at' keys x52) 0)] : List TApiCell)) (ys := at' l x52) (enc := eTApiCell) (i := 0) Tryz.underlying23 hinf.1 hinf.2.1 hinf.2.2.1 hinf.2.2.2 rfl rfl rfl rfl rfl (Src.z rfl rfl) eTApiCell_len eTApiCell_one g104 rfl (fun v103 => ?_)
     refine wa rfl ?_
     refine wl_nil ?_
     refine wk_in_norm ?_
     refine wk_x ?_
     refine wc_region ?_
     refine wm rfl ?_
     obtain ⟨g106, h107⟩ := chk_e h105
     refine wv (o_add rfl rfl g106) ?_
     refine wa rfl ?_
     refine wl_nil ?_
     have h108 := stp_next h107 ht81
     exact wk_then (wk_some (m82, ((x50 ++ ([(TApiCell.mk 4 0 (at' keys x52) 0)] : List TApiCell)) ++ (at' l x52), x52 + 1), v103) ⟨h108, Nat.lt_succ_self _⟩ (Sub.c rfl (Sub.c5 rfl rfl rfl rfl rfl Sub.nil)) (sC (sS sN)))
   ·have h109 := cnd_f c86 h84
    refine wc_exit ?_
    refine wk_then_exit ?_
    have h110 := stp_go h109 ht81 hK79
    exact wk_then_exit (wk_cut_hit (wk_some (x50, v51) h110 (Sub.c rfl (Sub.c rfl (Sub.c rfl Sub.nil))) (sC sN)))
  ·rintro ⟨x75, v76⟩ h111
   refine wk_as (l' := [(4, rv (.slice none 0 0)), (5, rI .i64 0), (6, rv v76)]) (H' := [.row v76 63 4 (List.map eTApiCell x75)]) rfl rfl ?_
   replace h111 : rMap_k1 F x75 = some r := h111
   unfold rMap_k1 at h111
   refine wk_in_hit ?_
   refine wk_x ?_
   refine wc_sr ?_
   refine wm rfl ?_
   refine WL.freeze (i := 0) rfl ?_
   refine WL.up (d := 46) (r := rSl 4 (List.map eTApiCell x75)) rfl (Up.fact (i := 0) rfl) ?_
   obtain ⟨r112, e114, h113⟩ := obn_e h111
   refine wc0 Tryz.call47 (rChecked_w F x75 r112 e114) rfl ?_
   refine wv (o_extract rfl rfl) ?_
   refine wv (o_extract rfl rfl) ?_
   refine wa rfl ?_
   refine wa rfl ?_
   refine wl_x ?_
   refine wc_ret ?_
   obtain rfl := some_e h113
   exact wk_ret (r_2 Tryz.results20 (rv_t rfl) (rv_t rfl)) (sS sN) ⟨rfl, rfl⟩

end Go.Proofs.YtkalifgebccpcaaGreatDoor.Q

/-
 What functions compute, with checks: plain definitions, printed by a small program of ours (gq.py). No program in sight.
-/
namespace Go.Proofs.YtkalifgebccpcaaGreatDoor
open Go
set_option linter.unusedVariables false
def cloneN (ys : (List TApiCell)) : Option ((List TApiCell)) :=
 chk (inA 40 (([] : List TApiCell).length + ys.length)) <| some (([] : List TApiCell) ++ ys)

def vKeysF (key : Str) (x : (List TApiCell)) (out : (List Str)) : Option (Bool × (List Str)) :=
 chk (inA 16 (out.length + ([key] : List Str).length)) <| some (true, out ++ ([key] : List Str))

def vKeysP_b1 (F : Nat) (v : (List TApiCell)) (x105 : Int) (x106 : Int) (x107 : (List Str)) : Option (Stp (Int × Int × (List Str)) (Out ((List Str)) ((List Str)))) :=
 cnd (decide (x106 < ((at' v 0).fN))) (cnd (decide (((at' v 0).fKind) = 6)) (chk (inR x105 (v.length : Int)) <| chk (inK .i64 (x105 + 1)) <| chk (inC (x105 + 1) (v.length : Int)) <| obn (vLook F (List.drop (Int.toNat (x105 + 1)) v)) fun r182 => chk (inK .i64 ((x105 + 1) + r182.1)) <| chk (inC (x105 + 1) ((x105 + 1) + r182.1)) <| chk (inC ((x105 + 1) + r182.1) (v.length : Int)) <| obn (vKeysF ((at' v x105).fStr) (List.take (Int.toNat ((x105 + 1) + r182.1) - Int.toNat (x105 + 1)) (List.drop (Int.toNat (x105 + 1)) v)) x107) fun r192 => cnd (!r192.1) (some (.out (.ret r192.2))) (chk (inK .i64 (x106 + 1)) <| some (.next ((x105 + 1) + r182.1, x106 + 1, r192.2)))) (chk (inC x105 (v.length : Int)) <| obn (vLook F (List.drop (Int.toNat x105) v)) fun r206 => chk (inK .i64 (x105 + r206.1)) <| chk (inC x105 (x105 + r206.1)) <| chk (inC (x105 + r206.1) (v.length : Int)) <| obn (vKeysF ([] : Str) (List.take (Int.toNat (x105 + r206.1) - Int.toNat x105) (List.drop (Int.toNat x105) v)) x107) fun r216 => cnd (!r216.1) (some (.out (.ret r216.2))) (chk (inK .i64 (x106 + 1)) <| some (.next (x105 + r206.1, x106 + 1, r216.2))))) (some (.out (.go x107)))

def vKeysP_k1 (x161 : (List Str)) : Option ((List Str)) :=
 some x161

def vKeysP (F : Nat) (v : (List TApiCell)) (out : (List Str)) : Option ((List Str)) :=
 chk (inR 0 (v.length : Int)) <| obn (lop (fun σ => vKeysP_b1 F v σ.1 σ.2.1 σ.2.2) F (1, 0, out)) (oute fun ν => vKeysP_k1 ν)

def vKeys (F : Nat) (v : (List TApiCell)) : Option ((List Str) × Int) :=
 obn (vCheck F v) fun r1 => cnd (!decide (r1 = 0)) (some (([] : List Str), r1)) (chk (inR 0 (v.length : Int)) <| cnd (!decide (((at' v 0).fKind) = 6)) (some (([] : List Str), 7)) (obn (vKeysP F v ([] : List Str)) fun r13 => some (r13, 0)))

def vItemsF (key : Str) (x : (List TApiCell)) (out : (List (List TApiCell))) : Option (Bool × (List (List TApiCell))) :=
 obn (cloneN x) fun r1 => chk (inA 24 (out.length + ([r1] : List (List TApiCell)).length)) <| some (true, out ++ ([r1] : List (List TApiCell)))

def vItemsP_b1 (F : Nat) (v : (List TApiCell)) (x105 : Int) (x106 : Int) (x107 : (List (List TApiCell))) : Option (Stp (Int × Int × (List (List TApiCell))) (Out ((List (List TApiCell))) ((List (List TApiCell))))) :=
 cnd (decide (x106 < ((at' v 0).fN))) (cnd (decide (((at' v 0).fKind) = 6)) (chk (inR x105 (v.length : Int)) <| chk (inK .i64 (x105 + 1)) <| chk (inC (x105 + 1) (v.length : Int)) <| obn (vLook F (List.drop (Int.toNat (x105 + 1)) v)) fun r182 => chk (inK .i64 ((x105 + 1) + r182.1)) <| chk (inC (x105 + 1) ((x105 + 1) + r182.1)) <| chk (inC ((x105 + 1) + r182.1) (v.length : Int)) <| obn (vItemsF ((at' v x105).fStr) (List.take (Int.toNat ((x105 + 1) + r182.1) - Int.toNat (x105 + 1)) (List.drop (Int.toNat (x105 + 1)) v)) x107) fun r192 => cnd (!r192.1) (some (.out (.ret r192.2))) (chk (inK .i64 (x106 + 1)) <| some (.next ((x105 + 1) + r182.1, x106 + 1, r192.2)))) (chk (inC x105 (v.length : Int)) <| obn (vLook F (List.drop (Int.toNat x105) v)) fun r206 => chk (inK .i64 (x105 + r206.1)) <| chk (inC x105 (x105 + r206.1)) <| chk (inC (x105 + r206.1) (v.length : Int)) <| obn (vItemsF ([] : Str) (List.take (Int.toNat (x105 + r206.1) - Int.toNat x105) (List.drop (Int.toNat x105) v)) x107) fun r216 => cnd (!r216.1) (some (.out (.ret r216.2))) (chk (inK .i64 (x106 + 1)) <| some (.next (x105 + r206.1, x106 + 1, r216.2))))) (some (.out (.go x107)))

def vItemsP_k1 (x161 : (List (List TApiCell))) : Option ((List (List TApiCell))) :=
 some x161

def vItemsP (F : Nat) (v : (List TApiCell)) (out : (List (List TApiCell))) : Option ((List (List TApiCell))) :=
 chk (inR 0 (v.length : Int)) <| obn (lop (fun σ => vItemsP_b1 F v σ.1 σ.2.1 σ.2.2) F (1, 0, out)) (oute fun ν => vItemsP_k1 ν)

def vItems (F : Nat) (v : (List TApiCell)) : Option ((List (List TApiCell)) × Int) :=
 obn (vCheck F v) fun r1 => cnd (!decide (r1 = 0)) (some (([] : List (List TApiCell)), r1)) (chk (inR 0 (v.length : Int)) <| cnd (((!decide (((at' v 0).fKind) = 5)) && (!decide (((at' v 0).fKind) = 6)))) (some (([] : List (List TApiCell)), 7)) (obn (vItemsP F v ([] : List (List TApiCell))) fun r14 => some (r14, 0)))

end Go.Proofs.YtkalifgebccpcaaGreatDoor

/-
 Regions that draw, with operations in a row behind them, and with allocations in any order. Plain theorems over any program; no condition.
-/
namespace Go.Proofs.YtkalifgebccpcaaGreatDoor.Q
open Go Go.RowKit
set_option linter.unusedVariables false
set_option linter.unusedSimpArgs false
def chainB (ops : List Oper) (N : Nat) : Bool :=
 let cl := cloM ops []
 (List.range ops.length).all (fun i => (bnds (ops.getD i default)).all (· < i)) &&
 (List.range ops.length).all (fun i => i < N || (List.range i).all (fun j => (cl.getD i 0).testBit j))
section
variable {P : Program} {Q : Exit → Act → World → Prop}
theorem count_first {listed : Array Bool} {len m : Nat} (hs : listed.size = len) (hm : m ≤ len) (h : ∀ j, j < len → (listed.getD j true = true ↔ j < m)) : listed.toList.count false = len - m := by
 have : listed.toList = List.replicate m true ++ List.replicate (len - m) false := by
  apply List.ext_getElem
  ·simp [hs]; omega
  ·intro j h1 h2
   have hj : j < len := by simpa [hs] using h1
   have := h j hj
   rw [Array.getD_eq_getD_getElem?, Array.getElem?_eq_getElem (by omega)] at this
   simp only [Option.getD_some] at this
   rw [Array.getElem_toList, List.getElem_append]
   split
   ·rename_i h3
    simp at h3
    simp [this.2 h3]
   ·rename_i h3
    simp at h3
    simp only [List.getElem_replicate]
    cases hb : listed[j] with
    | false => rfl
    | true => have := this.1 hb; omega
 rw [this]; simp [List.count_append, List.count_replicate]
theorem getD_tf {listed : Array Bool} {j : Nat} (h : j < listed.size) (d d' : Bool) : listed.getD j d = listed.getD j d' := by
 simp [Array.getD_eq_getD_getElem?, Array.getElem?_eq_getElem h]
theorem anc_listed {ops : List Oper} {listed : Array Bool} {i : Nat} {o : Oper} (ho : ops[i]? = some o) (hb : ∀ e ∈ bnds o, listed.getD e true = true)
  (hcl : ∀ j o, ops[j]? = some o → listed.getD j true = true → ∀ e ∈ bnds o, listed.getD e true = true) (j : Nat) (h : ((cloM ops []).getD i 0).testBit j = true) : j = i ∨ listed.getD j true = true :=
 cloM_good ops (fun k => k = i ∨ listed.getD k true = true) ops [] (fun t o' ht e he hF => by
  rcases hF with hF | hF
  ·simp at hF; subst hF; rw [ho] at ht; simp at ht; subst ht; exact .inr (hb e he)
  ·exact .inr (hcl t o' ht (by simpa using hF) e he)) (fun j i hb => by simp at hb) i j h (.inl rfl)
theorem ready_bnds {ops : List Oper} {listed : Array Bool} {i : Nat} (hsz : listed.size = ops.length) (hlt : ∀ i, i < ops.length → ∀ e ∈ bnds (ops.getD i default), e < i) (h : i ∈ Region.ready .any ops.toArray listed) :
  listed.getD i true = false ∧ i < ops.length ∧ ∃ o, ops[i]? = some o ∧ ∀ e ∈ bnds o, listed.getD e true = true := by
 obtain ⟨h1, o, ho, h2⟩ := mem_ready.1 h
 have ho' : ops[i]? = some o := by simpa using ho
 have hil := (List.getElem?_eq_some_iff.1 ho').1
 refine ⟨h1, hil, o, ho', fun e he => ?_⟩
 have hei := hlt i hil e (by rw [List.getD_eq_getElem?_getD, ho']; exact he)
 simp only [bnds, List.mem_map, List.mem_filter] at he
 obtain ⟨x, ⟨hx1, hx2⟩, rfl⟩ := he
 have h3 := h2 x (by simpa using hx1) hx2
 rw [getD_tf (by omega) true false]; exact h3
theorem not_ready_all {ops : List Oper} {listed : Array Bool} (hsz : listed.size = ops.length) (hlt : ∀ i, i < ops.length → ∀ e ∈ bnds (ops.getD i default), e < i) (h : Region.ready .any ops.toArray listed = []) :
  ∀ j, j < ops.length → listed.getD j true = true := by
 intro j
 induction j using Nat.strongRecOn with
 | ind j ih =>
  intro hj
  cases hb : listed.getD j true with
  | true => rfl
  | false =>
   have : j ∈ Region.ready .any ops.toArray listed := mem_ready.2 ⟨hb, ops[j], by simp [hj], fun e he hbn => by
    have hel : e.on < j := hlt j hj e.on (by
     rw [List.getD_eq_getElem?_getD, List.getElem?_eq_getElem hj]
     simp only [bnds, Option.getD_some, List.mem_map, List.mem_filter]
     exact ⟨e, ⟨by simpa using he, hbn⟩, rfl⟩)
    rw [getD_tf (by omega) false true]
    exact ih e.on hel (by omega)⟩
   rw [h] at this; cases this
theorem set_iff {listed : Array Bool} {i j : Nat} (hi : i < listed.size) : (listed.setIfInBounds i true).getD j true = true ↔ (j = i ∨ listed.getD j true = true) := by
 by_cases hj : i = j
 ·subst hj; simp [hi]
 ·rw [getD_set_ne true hj]
  exact ⟨.inr, fun h => h.elim (fun h => absurd h.symm hj) id⟩
theorem set_count {listed : Array Bool} {i fuel : Nat} (hi : i < listed.size) (hun : listed.getD i true = false) (hc : listed.toList.count false = fuel + 1) : (listed.setIfInBounds i true).toList.count false = fuel := by
 have hfi : listed.toList[i]? = some false := by
  rw [Array.getD_eq_getD_getElem?, Array.getElem?_eq_getElem hi] at hun
  simp at hun; simp [hi, hun]
 rw [Array.toList_setIfInBounds]
 have h1 := List.count_set (a := true) (b := false) (l := listed.toList) (i := i) (by simpa using hi)
 have h2 : listed.toList[i]'(by simpa using hi) = false := by
  have := List.getElem?_eq_some_iff.1 hfi; exact this.2
 rw [h1, h2, hc]; rfl
theorem wpAny_chain {ops : List Oper} {N : Nat} (hlt : ∀ i, i < ops.length → ∀ e ∈ bnds (ops.getD i default), e < i)
  (hch : ∀ i, N ≤ i → i < ops.length → ∀ j, j < i → ((cloM ops []).getD i 0).testBit j = true) : ∀ (k m : Nat) (listed : Array Bool) (a : Act) (w : World), m + k = ops.length → N ≤ m → listed.size = ops.length →
   (∀ j, j < ops.length → (listed.getD j true = true ↔ j < m)) → (∀ j o, ops[j]? = some o → listed.getD j true = true → ∀ e ∈ bnds o, listed.getD e true = true) → wpList P ops.toArray Q (ops.drop m) a w → wpAny P .any ops.toArray Q k listed a w
 | 0, m, listed, a, w, hk, hN, hsz, hl, hcl, h => by
  refine ⟨?_, ?_⟩
  ·cases hr : Region.ready .any ops.toArray listed with
   | nil => rfl
   | cons i r =>
    obtain ⟨h1, h2, _⟩ := ready_bnds hsz hlt (i := i) (by rw [hr]; simp)
    rw [(hl i h2).2 (by omega)] at h1; cases h1
  ·rw [List.drop_of_length_le (by omega)] at h
   exact h
 | k + 1, m, listed, a, w, hk, hN, hsz, hl, hcl, h => by
  refine ⟨fun hr => ?_, fun i hi => ?_⟩
  ·have := (hl m (by omega)).1 (not_ready_all hsz hlt hr m (by omega)); omega
  ·obtain ⟨h1, h2, o, ho, hb⟩ := ready_bnds hsz hlt hi
   have him : i = m := by
    have hmi : ¬ i < m := fun h' => by rw [(hl i h2).2 h'] at h1; cases h1
    by_cases e : i = m
    ·exact e
    ·rcases anc_listed ho hb hcl m (hch i (by omega) h2 m (by omega)) with h3 | h3
     ·exact h3.symm
     ·have := (hl m (by omega)).1 h3; omega
   subst him
   have hd : ops.drop i = o :: ops.drop (i + 1) := by
    rw [List.drop_eq_getElem_cons h2]
    congr 1
    exact (List.getElem?_eq_some_iff.1 ho).2
   rw [hd] at h
   have ih : ∀ a' w', wpList P ops.toArray Q (ops.drop (i + 1)) a' w' → wpAny P .any ops.toArray Q k (listed.setIfInBounds i true) a' w' := fun a' w' h' => by
    refine wpAny_chain hlt hch k (i + 1) _ a' w' (by omega) (by omega) (by simpa using hsz) (fun j hj => ?_) (fun j o' hj hlj e he => ?_) h'
    ·rw [set_iff (by omega), hl j hj]; omega
    ·rw [set_iff (by omega)] at hlj ⊢
     rcases hlj with rfl | hlj
     ·rw [ho] at hj; simp at hj; subst hj; exact .inr (hb e he)
     ·exact .inr (hcl j o' hj hlj e he)
   unfold wpOp
   have hoA : ops.toArray[i]? = some o := by simpa using ho
   simp only [hoA]
   simp only [wpList] at h
   split
   ·rename_i hw'
    rw [if_pos hw'] at h
    exact h.imp (fun h => Oper.wp_mono ih h) (fun h => h)
   ·rename_i hw'
    rw [if_neg hw'] at h
    exact ih _ _ h
theorem wp_inv {id : Nat} {ops : List Oper} {N : Nat} (hm : P.follows .mixedOrders = true) (hB : chainB ops N = true) (hN : N ≤ ops.length) (I : (Nat → Bool) → Act → World → Prop)
  (hext : ∀ S S' a w, (∀ j, j < N → S j = S' j) → I S a w → I S' a w) {a : Act} {w : World} (h0 : I (fun _ => false) a { w with drawn := w.drawn + 1 })
  (step : ∀ S i o a w, i < N → S i = false → ops[i]? = some o → (∀ e ∈ bnds o, e < i ∧ S e = true) → I S a w → ∀ K : Act → World → Prop, (∀ a' w', I (fun j => j == i || S j) a' w' → K a' w') →
   (Region.wanted o (yielded ops.toArray a.tmps) = true → o.wp P a w K Q) ∧ (Region.wanted o (yielded ops.toArray a.tmps) = false → K (a.put o.dst undef) w))
  (fin : ∀ a w, I (fun _ => true) a w → wpList P ops.toArray Q (ops.drop N) a w) : (Code.region id ops.toArray true).wp P Q a w := by
 simp only [chainB, Bool.and_eq_true, List.all_eq_true, List.mem_range, decide_eq_true_eq, Bool.or_eq_true] at hB
 obtain ⟨hlt, hch0⟩ := hB
 have hch : ∀ i, N ≤ i → i < ops.length → ∀ j, j < i → ((cloM ops []).getD i 0).testBit j = true := fun i h1 h2 j hj => by
  rcases hch0 i h2 with h3 | h3
  ·omega
  ·exact h3 j hj
 refine wp_region_any hm ?_
 have main : ∀ (fuel : Nat) (listed : Array Bool) (a : Act) (w : World), listed.size = ops.length → listed.toList.count false = fuel → I (fun j => listed.getD j true) a w →
   (∀ j o, ops[j]? = some o → listed.getD j true = true → ∀ e ∈ bnds o, listed.getD e true = true) → (∀ j, N ≤ j → j < ops.length → listed.getD j true = false) → wpAny P .any ops.toArray Q fuel listed a w := by
  intro fuel
  have allin : ∀ (fuel : Nat) (listed : Array Bool) (a : Act) (w : World), listed.size = ops.length → listed.toList.count false = fuel → I (fun j => listed.getD j true) a w →
   (∀ j o, ops[j]? = some o → listed.getD j true = true → ∀ e ∈ bnds o, listed.getD e true = true) → (∀ j, N ≤ j → j < ops.length → listed.getD j true = false) → (∀ j, j < N → listed.getD j true = true) → wpAny P .any ops.toArray Q fuel listed a w := by
   intro fuel listed a w hsz hc hI hcl hlast hall
   have hl : ∀ j, j < ops.length → (listed.getD j true = true ↔ j < N) := fun j hj => by
    constructor
    ·intro h
     by_cases hjN : j < N
     ·exact hjN
     ·rw [hlast j (by omega) hj] at h; cases h
    ·exact hall j
   have := count_first hsz hN hl
   refine wpAny_chain hlt hch fuel N listed a w (by omega) (Nat.le_refl _) hsz hl hcl (fin a w (hext _ _ a w (fun j hj => hall j hj) hI))
  induction fuel with
  | zero =>
   intro listed a w hsz hc hI hcl hlast
   refine allin 0 listed a w hsz hc hI hcl hlast (fun j hj => ?_)
   cases hb : listed.getD j true with
   | true => rfl
   | false =>
    have : false ∈ listed.toList := by
     rw [Array.getD_eq_getD_getElem?, Array.getElem?_eq_getElem (by omega)] at hb
     simp at hb; rw [← hb]; simp
    have := List.count_pos_iff.2 this
    omega
  | succ fuel ih =>
   intro listed a w hsz hc hI hcl hlast
   by_cases hall : ∀ j, j < N → listed.getD j true = true
   ·exact allin (fuel + 1) listed a w hsz hc hI hcl hlast hall
   ·refine ⟨fun hr => absurd (fun j hj => not_ready_all hsz hlt hr j (by omega)) hall, fun i hi => ?_⟩
    obtain ⟨h1, h2, o, ho, hb⟩ := ready_bnds hsz hlt hi
    have hiN : i < N := by
     by_cases h : i < N
     ·exact h
     ·refine absurd (fun j hj => ?_) hall
      rcases anc_listed ho hb hcl j (hch i (by omega) h2 j (by omega)) with h3 | h3
      ·omega
      ·exact h3
    have K' : ∀ a' w', I (fun j => j == i || listed.getD j true) a' w' → wpAny P .any ops.toArray Q fuel (listed.setIfInBounds i true) a' w' := fun a' w' hI' => by
     refine ih _ a' w' (by simpa using hsz) (set_count (by omega) h1 hc) (hext _ _ a' w' (fun j hj => ?_) hI') (fun j o' hj hlj e he => ?_) (fun j h3 h4 => ?_)
     ·have := set_iff (listed := listed) (i := i) (j := j) (by omega)
      cases hq : (listed.setIfInBounds i true).getD j true with
      | true =>
       rw [hq] at this
       rcases this.1 rfl with h | h
       ·simp [h]
       ·simp [h]
      | false =>
       rw [hq] at this
       have h5 : ¬ (j = i ∨ listed.getD j true = true) := fun h => by have := this.2 h; cases this
       cases hz : listed.getD j true with
       | true => exact absurd (.inr hz) h5
       | false =>
        have : j ≠ i := fun h => h5 (.inl h)
        simp [this]
     ·rw [set_iff (by omega)] at hlj ⊢
      rcases hlj with rfl | hlj
      ·rw [ho] at hj; simp at hj; subst hj; exact .inr (hb e he)
      ·exact .inr (hcl j o' hj hlj e he)
     ·rw [getD_set_ne true (by omega)]; exact hlast j h3 h4
    obtain ⟨k1, k2⟩ := step _ i o a w hiN h1 ho (fun e he => ⟨hlt i h2 e (by rw [List.getD_eq_getElem?_getD, ho]; exact he), hb e he⟩) hI _ K'
    unfold wpOp
    have hoA : ops.toArray[i]? = some o := by simpa using ho
    simp only [hoA]
    split
    ·rename_i hw'; exact .inl (k1 hw')
    ·rename_i hw'; exact k2 (by simpa using hw')
 have e0 : ∀ j, j < ops.length → (Array.replicate ops.length false).getD j true = false := fun j hj => by simp [hj]
 have hsz0 : ops.toArray.size = ops.length := by simp
 rw [hsz0]
 refine main ops.length (Array.replicate ops.length false) a _ (by simp) (by simp) (hext _ _ _ _ (fun j hj => (e0 j (by omega)).symm) h0) (fun j o hj hl => ?_) (fun j _ h2 => e0 j h2)
 rw [e0 j (List.getElem?_eq_some_iff.1 hj).1] at hl; cases hl
end
/-! ### Allocations in any order -/
structure Sa where
 deps : List Nat
 r : Rp
 al : Option (List Rp × TypeId) := none
 late : Option (Nat × List Rp) := none
 sto : Option Nat := none
def sas (sp : List Sa) (i : Nat) : Sa := sp.getD i { deps := [], r := rv undef }
def spq (sp : List Sa) : List Sp := sp.map fun s => ⟨s.deps, s.r, 0⟩
def raOf (β : Nat → Nat) (s : Sa) (i : Nat) : Rp := match s.al with
 | none => s.r
 | some _ => rv (.pointer (some ⟨β i, 0, none⟩))
def cont (S : Nat → Bool) (late : Option (Nat × List Rp)) (cs : List Rp) : List Rp := match late with
 | none => cs
 | some q => if S q.1 then q.2 else cs
def entL (S : Nat → Bool) (β : Nat → Nat) : List Sa → Nat → List Ent
 | [], _ => []
 | s :: r, t => match s.al with
  | some p => if S t then .blk (β t) (cont S s.late p.1) p.2 :: entL S β r (t + 1) else entL S β r (t + 1)
  | none => entL S β r (t + 1)
def entA (β : Nat → Nat) : List Sa → Nat → List Ent
 | [], _ => []
 | s :: r, t => match s.al with
  | some p => .blk (β t) (match s.late with | none => p.1 | some q => q.2) p.2 :: entA β r (t + 1)
  | none => entA β r (t + 1)
def zipA (β : Nat → Nat) : List Oper → List Sa → Nat → Fr → Fr
 | o :: os, s :: sp, i, l => match o.dst with
  | some d => (d, raOf β s i) :: zipA β os sp (i + 1) l
  | none => zipA β os sp (i + 1) l
 | _, _, _, l => l
theorem cont_congr {S S' : Nat → Bool} {late : Option (Nat × List Rp)} {cs : List Rp} (h : ∀ q, late = some q → S q.1 = S' q.1) : cont S late cs = cont S' late cs := by
 unfold cont
 cases late with
 | none => rfl
 | some q => simp only []; rw [h q rfl]
theorem entL_cons (S : Nat → Bool) (β : Nat → Nat) (s : Sa) (r : List Sa) (t : Nat) : entL S β (s :: r) t = match s.al with
  | some p => if S t then .blk (β t) (cont S s.late p.1) p.2 :: entL S β r (t + 1) else entL S β r (t + 1)
  | none => entL S β r (t + 1) := rfl
theorem entL_congr {S S' : Nat → Bool} {β β' : Nat → Nat} : ∀ (r : List Sa) (t0 : Nat), (∀ (t : Nat) (s : Sa), r[t]? = some s → s.al ≠ none → S (t0 + t) = S' (t0 + t) ∧ (S (t0 + t) = true → β (t0 + t) = β' (t0 + t) ∧ ∀ q, s.late = some q → S q.1 = S' q.1)) → entL S β r t0 = entL S' β' r t0
 | [], _, _ => rfl
 | s :: r, t0, h => by
  have ih := entL_congr r (t0 + 1) (fun t s hs hn => by
   have := h (t + 1) s (by simpa using hs) hn
   rw [show t0 + 1 + t = t0 + (t + 1) from by omega]; exact this)
  unfold entL
  rw [ih]
  cases ha : s.al with
  | none => rfl
  | some p =>
   obtain ⟨h1, h2⟩ := h 0 s rfl (by rw [ha]; exact nofun)
   simp only [Nat.add_zero] at h1 h2
   simp only []
   rw [← h1]
   split
   ·rename_i hS; rw [(h2 hS).1, cont_congr (h2 hS).2]
   ·rfl
theorem entL_all (β : Nat → Nat) : ∀ (r : List Sa) (t0 : Nat), entL (fun _ => true) β r t0 = entA β r t0
 | [], _ => rfl
 | s :: r, t0 => by
  unfold entL entA
  rw [entL_all β r (t0 + 1)]
  cases s.al with
  | none => rfl
  | some p => cases hl : s.late <;> simp [cont, hl]
theorem entL_none (β : Nat → Nat) : ∀ (r : List Sa) (t0 : Nat), entL (fun _ => false) β r t0 = []
 | [], _ => rfl
 | s :: r, t0 => by
  unfold entL
  rw [entL_none β r (t0 + 1)]
  cases s.al <;> simp
theorem entL_put {S : Nat → Bool} {β : Nat → Nat} {i b : Nat} {p : List Rp × TypeId} : ∀ (r : List Sa) (t0 k : Nat) (s : Sa), i = t0 + k → r[k]? = some s → s.al = some p → S i = false → (∀ (t : Nat) (s : Sa) (q : Nat × List Rp), r[t]? = some s → s.al ≠ none → s.late = some q → q.1 ≠ i) → (∀ q, s.late = some q → S q.1 = false ∧ q.1 ≠ i) →
  (entL (fun j => j == i || S j) (fun j => if j = i then b else β j) r t0).Perm (.blk b p.1 p.2 :: entL S β r t0)
 | [], _, _, _, _, h, _, _, _, _ => by simp at h
 | s' :: r, t0, 0, s, hi, h, ha, hS, hne, hl => by
  simp at h hi; subst h; subst hi
  have e := entL_congr (S := fun j => j == i || S j) (S' := S) (β := fun j => if j = i then b else β j) (β' := β) r (i + 1) (fun t s hs hn => by
   have : i + 1 + t ≠ i := by omega
   refine ⟨by simp [this], fun _ => ⟨by simp [this], fun q hq => ?_⟩⟩
   have := hne (t + 1) s q (by simpa using hs) hn hq
   simp [this])
  have ec : cont (fun j => j == i || S j) s'.late p.1 = p.1 := by
   unfold cont
   cases hq : s'.late with
   | none => rfl
   | some q =>
    obtain ⟨h1, h2⟩ := hl q hq
    simp [h1, h2]
  unfold entL
  rw [e, ha]
  simp only [hS, BEq.rfl, Bool.true_or, if_true, ec]
  simp
 | s' :: r, t0, k + 1, s, hi, h, ha, hS, hne, hl => by
  have ih := entL_put (S := S) (β := β) (i := i) (b := b) (p := p) r (t0 + 1) k s (by omega) (by simpa using h) ha hS (fun t s q hs => hne (t + 1) s q (by simpa using hs)) hl
  have hne0 : t0 ≠ i := by omega
  have hne' : (t0 == i) = false := by simpa using hne0
  unfold entL
  cases ha' : s'.al with
  | none => exact ih
  | some q =>
   simp only [hne', Bool.false_or, if_neg hne0]
   rw [cont_congr (S := fun j => j == i || S j) (S' := S) (fun q hq => by
    have := hne 0 s' q rfl (by rw [ha']; exact nofun) hq
    simp [this])]
   cases hS' : S t0 with
   | true => simpa using (List.Perm.cons _ ih).trans (List.Perm.swap _ _ _)
   | false => simpa using ih
theorem entL_sto {S : Nat → Bool} {β : Nat → Nat} {i j : Nat} {p : List Rp × TypeId} {ncs : List Rp} : ∀ (r : List Sa) (t0 k : Nat) (s : Sa), j = t0 + k → r[k]? = some s → s.al = some p → s.late = some (i, ncs) → S j = true → S i = false → (∀ (t : Nat) (s : Sa) (q : Nat × List Rp), r[t]? = some s → s.al ≠ none → s.late = some q → t0 + t ≠ j → q.1 ≠ i) → (∀ (t : Nat) (s : Sa), r[t]? = some s → s.al ≠ none → t0 + t ≠ i) →
  ∃ H', (entL S β r t0).Perm (.blk (β j) p.1 p.2 :: H') ∧ (entL (fun j => j == i || S j) β r t0).Perm (.blk (β j) ncs p.2 :: H')
 | [], _, _, _, _, h, _, _, _, _, _, _ => by simp at h
 | s' :: r, t0, 0, s, hj, h, ha, hl, hSj, hSi, hne, hni => by
  simp at h hj; subst h; subst hj
  have e := entL_congr (S := fun x => x == i || S x) (S' := S) (β := β) (β' := β) r (j + 1) (fun t s hs hn => by
   have h1 := hni (t + 1) s (by simpa using hs) hn
   have h1' : j + 1 + t ≠ i := by omega
   refine ⟨by simp [h1'], fun _ => ⟨rfl, fun q hq => ?_⟩⟩
   have := hne (t + 1) s q (by simpa using hs) hn hq (by omega)
   simp [this])
  refine ⟨entL S β r (j + 1), ?_, ?_⟩
  ·rw [entL_cons]
   rw [ha]
   simp [hSj, cont, hl, hSi]
  ·rw [entL_cons]
   rw [ha, e]
   simp [hSj, cont, hl]
 | s' :: r, t0, k + 1, s, hj, h, ha, hl, hSj, hSi, hne, hni => by
  obtain ⟨H', h1, h2⟩ := entL_sto (S := S) (β := β) (i := i) (j := j) (p := p) (ncs := ncs) r (t0 + 1) k s (by omega) (by simpa using h) ha hl hSj hSi (fun t s q hs hn hq hx => hne (t + 1) s q (by simpa using hs) hn hq (by omega)) (fun t s hs hn => by
   have := hni (t + 1) s (by simpa using hs) hn; omega)
  cases ha' : s'.al with
  | none => exact ⟨H', by rw [entL_cons, ha']; exact h1, by rw [entL_cons, ha']; exact h2⟩
  | some q =>
   have hi0 := hni 0 s' rfl (by rw [ha']; exact nofun)
   have hi0' : (t0 == i) = false := by simpa using hi0
   have ec : cont (fun x => x == i || S x) s'.late q.1 = cont S s'.late q.1 := cont_congr (fun q hq => by
    have := hne 0 s' q rfl (by rw [ha']; exact nofun) hq (by omega)
    simp [this])
   cases hS' : S t0 with
   | true =>
    refine ⟨.blk (β t0) (cont S s'.late q.1) q.2 :: H', ?_, ?_⟩
    ·rw [entL_cons]
     rw [ha']; simpa [hS'] using (List.Perm.cons _ h1).trans (List.Perm.swap _ _ _)
    ·rw [entL_cons]
     rw [ha']
     simp only [hi0', Bool.false_or, hS', if_true, ec]
     exact (List.Perm.cons _ h2).trans (List.Perm.swap _ _ _)
   | false =>
    refine ⟨H', ?_, ?_⟩
    ·rw [entL_cons]
     rw [ha']; simpa [hS'] using h1
    ·rw [entL_cons]
     rw [ha']
     simp only [hi0', Bool.false_or, hS']
     simpa using h2
def okA (n : Nat) (ops : List Oper) (N : Nat) (keys : List Nat) (deps : List (List Nat)) (als : List Bool) (lates stos : List (Option Nat)) : Bool :=
 chainB ops N && decide (N ≤ ops.length) &&
 (List.range N).all (fun i => match dstOf ops i with
  | some d => decide (d < n) && !keys.contains d && (List.range N).all (fun j => j == i || dstOf ops j != some d)
  | none => true) &&
 (List.range N).all (fun i => (deps.getD i []).all (fun j => decide (j < N) && (bnds (ops.getD i default)).contains j && !als.getD j true)) &&
 (List.range N).all (fun i => match stos.getD i none with
  | some j => decide (j < N) && (bnds (ops.getD i default)).contains j && als.getD j false && !als.getD i true
  | none => true) &&
 (List.range N).all (fun j => match lates.getD j none with
  | some k => decide (k < N) && als.getD j false && stos.getD k none == some j
  | none => true)
def AlOk (P : Program) (n : Nat) (c : Cx) (opsA : Array Oper) (Q : Exit → Act → World → Prop) (o : Oper) (p : List Rp × TypeId) : Prop :=
 ∀ H a w Z (K : Act → World → Prop), St c H Z w → (∀ b w', St c (.blk b p.1 p.2 :: H) Z w' → K (a.put o.dst (.pointer (some ⟨b, 0, none⟩))) w') →
  Region.wanted o (yielded opsA a.tmps) = true ∧ o.wp P a w K Q
def ObA (P : Program) (n : Nat) (c : Cx) (opsA : Array Oper) (Q : Exit → Act → World → Prop) (ops : List Oper) (sp : List Sa) (l0 : Fr) (H : List Ent) (i : Nat) (o : Oper) : Prop :=
 match (sas sp i).sto with
 | some j => o.dst = none ∧ ∃ d p ncs, dstOf ops j = some d ∧ (sas sp j).al = some p ∧ (sas sp j).late = some (i, ncs) ∧
   ∀ b H, OpOk P n c opsA Q ((d, rv (.pointer (some ⟨b, 0, none⟩))) :: depFr ops (spq sp) (sas sp i).deps l0) (.blk b p.1 p.2 :: H) o (rv undef) (.blk b ncs p.2 :: H)
 | none => match (sas sp i).al with
  | none => ∀ E, OpOk P n c opsA Q (depFr ops (spq sp) (sas sp i).deps l0) (H ++ E) o (sas sp i).r (H ++ E)
  | some p => AlOk P n c opsA Q o p
def OblA (P : Program) (n : Nat) (c : Cx) (opsA : Array Oper) (Q : Exit → Act → World → Prop) (ops : List Oper) (sp : List Sa) (l0 : Fr) (H : List Ent) : Nat → List Oper → Prop
 | i, o :: rest => ObA P n c opsA Q ops sp l0 H i o ∧ OblA P n c opsA Q ops sp l0 H (i + 1) rest
 | _, [] => True
section
variable {P : Program} {n : Nat} {c : Cx} {opsA : Array Oper} {Q : Exit → Act → World → Prop} {l l0 : Fr} {H : List Ent} {sp : List Sa}
theorem OblA.at {ops : List Oper} : ∀ {k : Nat} {rest : List Oper}, OblA P n c opsA Q ops sp l0 H k rest → ∀ (t : Nat) o, rest[t]? = some o → ObA P n c opsA Q ops sp l0 H (k + t) o
 | k, o :: rest, ⟨h1, h2⟩, t, o', ht => by
  cases t with
  | zero => simp at ht; subst ht; exact h1
  | succ t =>
   have := OblA.at h2 t o' (by simpa using ht)
   rw [show k + (t + 1) = k + 1 + t from by omega]
   exact this
 | _, [], _, t, o, h => by simp at h
theorem agr_zip {β : Nat → Nat} {a : Act} {Z : Fz} (h0 : Agr n l0 a Z) : ∀ (os : List Oper) (ss : List Sa) (k : Nat), (∀ (t : Nat) o s d, os[t]? = some o → ss[t]? = some s → o.dst = some d → ∃ v, a.tmps[d]? = some v ∧ (raOf β s (k + t)).p Z v) → Agr n (zipA β os ss k l0) a Z
 | [], _, _, _ => by unfold zipA; exact h0
 | _ :: _, [], _, _ => by unfold zipA; exact h0
 | o :: os, s :: ss, k, h => by
  have ih := agr_zip h0 os ss (k + 1) (fun t o' s' d h1 h2 h3 => by
   have := h (t + 1) o' s' d (by simpa using h1) (by simpa using h2) h3
   rw [show k + 1 + t = k + (t + 1) from by omega]; exact this)
  unfold zipA
  cases hd : o.dst with
  | none => exact ih
  | some d =>
   refine ⟨ih.size, ih.defers, fun i r hi => ?_⟩
   rw [look_cons] at hi
   split at hi
   ·rename_i e; subst e; simp at hi; subst hi; exact h 0 o s d rfl rfl hd
   ·exact ih.tm i r hi
theorem wc_rda {id : Nat} {ops : List Oper} (N : Nat) (sp : List Sa) (hm : P.follows .mixedOrders = true) (hB : okA n ops N (keysOf l0) (sp.map (·.deps)) (sp.map (·.al.isSome)) (sp.map (·.late.map (·.1))) (sp.map (·.sto)) = true) (hl0 : SubL l0 l) (hsp : sp.length = N)
  (hob : OblA P n c ops.toArray Q ops sp l0 H 0 (ops.take N)) (h : ∀ β, WL P n c ops.toArray Q (ops.drop N) (zipA β (ops.take N) sp 0 l0) (H ++ entA β sp 0)) : WC P n c (.region id ops.toArray true) Q l H := by
 intro a w Z ha hw
 simp only [okA, Bool.and_eq_true, List.all_eq_true, List.mem_range, decide_eq_true_eq] at hB
 obtain ⟨⟨⟨⟨⟨b1, bN⟩, b2⟩, b3⟩, b4⟩, b5⟩ := hB
 have hget : ∀ i, i < N → (ops.take N)[i]? = ops[i]? := fun i hi => by rw [List.getElem?_take, if_pos hi]
 have hsa : ∀ i, i < N → sp[i]? = some (sas sp i) := fun i hi => by
  simp [sas, List.getD_eq_getElem?_getD, List.getElem?_eq_getElem (show i < sp.length by omega)]
 have hspq : ∀ i, i < N → (sps (spq sp) i) = ⟨(sas sp i).deps, (sas sp i).r, 0⟩ := fun i hi => by
  simp [sps, spq, List.getD_eq_getElem?_getD, List.getElem?_map, hsa i hi]
 have hals : ∀ j b, j < N → (sp.map (·.al.isSome)).getD j b = (sas sp j).al.isSome := fun j b hj => by simp [List.getD_eq_getElem?_getD, List.getElem?_map, hsa j hj]
 have hstos : ∀ j, j < N → (sp.map (·.sto)).getD j none = (sas sp j).sto := fun j hj => by simp [List.getD_eq_getElem?_getD, List.getElem?_map, hsa j hj]
 have hlates : ∀ j, j < N → (sp.map (·.late.map (·.1))).getD j none = (sas sp j).late.map (·.1) := fun j hj => by simp [List.getD_eq_getElem?_getD, List.getElem?_map, hsa j hj]
 have S1 : ∀ i o j, i < N → ops[i]? = some o → (sas sp i).sto = some j → j < N ∧ j ∈ bnds o ∧ (sas sp j).al ≠ none ∧ (sas sp i).al = none := fun i o j hi ho hs => by
  have h1 := b4 i hi
  rw [hstos i hi, hs] at h1
  simp only [Bool.and_eq_true, Bool.not_eq_true', decide_eq_true_eq] at h1
  obtain ⟨⟨⟨h2, h3⟩, h4⟩, h5⟩ := h1
  rw [hals j _ h2] at h4
  rw [hals i _ hi] at h5
  rw [List.getD_eq_getElem?_getD, ho, Option.getD_some, List.contains_iff_mem] at h3
  exact ⟨h2, h3, fun e => (by rw [e] at h4; cases h4), (by simpa using h5)⟩
 have L1 : ∀ t q, t < N → (sas sp t).late = some q → q.1 < N ∧ (sas sp q.1).sto = some t := fun t q ht hq => by
  have h1 := b5 t ht
  rw [hlates t ht, hq] at h1
  simp only [Option.map_some, Bool.and_eq_true, decide_eq_true_eq, beq_iff_eq] at h1
  obtain ⟨⟨h2, h3⟩, h4⟩ := h1
  rw [hstos _ h2] at h4
  exact ⟨h2, h4⟩
 have hops : ∀ j, j < N → ∃ o, ops[j]? = some o := fun j hj => ⟨ops[j]'(by omega), List.getElem?_eq_getElem (by omega)⟩
 have lt_of : ∀ (t : Nat) (s : Sa), sp[t]? = some s → t < N ∧ s = sas sp t := fun t s hs => by
  have h1 : t < N := by have := (List.getElem?_eq_some_iff.1 hs).1; omega
  refine ⟨h1, ?_⟩
  rw [hsa t h1] at hs; simpa using hs.symm
 have hdst : ∀ i o d, i < N → ops[i]? = some o → o.dst = some d → (d < n ∧ d ∉ keysOf l0) ∧ ∀ j, j < N → j ≠ i → dstOf ops j ≠ some d := fun i o d hi ho hd => by
  have h3 := b2 i hi
  have : dstOf ops i = some d := by simp [dstOf, ho, hd]
  rw [this] at h3
  simp only [Bool.and_eq_true, Bool.not_eq_true', List.all_eq_true, List.mem_range, decide_eq_true_eq] at h3
  refine ⟨⟨h3.1.1, fun hmem => by rw [← List.contains_iff_mem] at hmem; rw [hmem] at h3; cases h3.1.2⟩, fun j hj hne he => ?_⟩
  have := h3.2 j hj
  simp [hne, he] at this
 refine wp_inv (N := N) hm b1 bN (fun S a w => ∃ (β : Nat → Nat) (Z : Fz), St c (H ++ entL S β sp 0) Z w ∧ Agr n l0 a Z ∧ (∀ j o d, j < N → S j = true → ops[j]? = some o → o.dst = some d → ∃ v, a.tmps[d]? = some v ∧ (raOf β (sas sp j) j).p Z v) ∧
   ∀ k j, k < N → (sas sp k).sto = some j → S k = true → S j = true)
  (fun S S' a w hS hI => ?_) ⟨fun _ => 0, Z, ?_, ha.subL hl0, fun j o d _ hS => (by cases hS), fun k j _ _ hS => (by cases hS)⟩ (fun S i o a w hi hun ho hb hI K hK => ?_) (fun a w hI => ?_)
 ·obtain ⟨β, Z, h1, h2, h3, h4⟩ := hI
  refine ⟨β, Z, ?_, h2, fun j o d hj hS' => h3 j o d hj (by rw [hS j hj]; exact hS'), fun k j hk hs hSk => ?_⟩
  ·rw [← entL_congr (S := S) (β := β) (β' := β) sp 0 (fun t s hs _ => by
    obtain ⟨ht, rfl⟩ := lt_of t s hs
    exact ⟨hS _ (by omega), fun _ => ⟨rfl, fun q hq => hS _ (L1 t q ht hq).1⟩⟩)]
   exact h1
  ·obtain ⟨o, ho⟩ := hops k hk
   rw [← hS j (S1 k o j hk ho hs).1]
   exact h4 k j hk hs (by rw [hS k hk]; exact hSk)
 ·rw [entL_none, List.append_nil]; exact hw.drawn _
 ·obtain ⟨β, Z, h1, h2, h3, hx⟩ := hI
  have hput : ∀ k u v, a.tmps[k]? = some u → o.dst ≠ some k → (a.put o.dst v).tmps[k]? = some u := fun k u v hk hne => by
   cases hd : o.dst with
   | none => simpa [Act.put] using hk
   | some d =>
    simp only [Act.put, Array.getElem?_setIfInBounds]
    rw [if_neg (fun e => hne (by rw [hd, e]))]; exact hk
  have hagr : ∀ v Z', Fz.le Z Z' → Agr n l0 (a.put o.dst v) Z' := fun v Z' hz => by
   refine ⟨?_, ?_, fun k r hk => ?_⟩
   ·cases o.dst <;> simp [Act.put, h2.size]
   ·cases o.dst <;> simp [Act.put, h2.defers]
   ·obtain ⟨u, hu, hpu⟩ := h2.tm k r hk
    exact ⟨u, hput k u v hu (fun e => ((hdst i o k hi ho e).1).2 (look_mem hk)), r.mono hz hpu⟩
  have hvals : ∀ (v : Value) (Z' : Fz) (β' : Nat → Nat), Fz.le Z Z' → (∀ j, j ≠ i → β' j = β j) → (o.dst ≠ none → (raOf β' (sas sp i) i).p Z' v) → ∀ j o' d, j < N → (j == i || S j) = true → ops[j]? = some o' → o'.dst = some d → ∃ u, (a.put o.dst v).tmps[d]? = some u ∧ (raOf β' (sas sp j) j).p Z' u := by
   intro v Z' β' hz hβ hp j o' d hj hS' ho' hd
   by_cases hji : j = i
   ·subst hji
    rw [ho] at ho'; simp at ho'; subst ho'
    refine ⟨v, ?_, hp (by simp [hd])⟩
    have hdn : d < a.tmps.size := by rw [h2.size]; exact (hdst j o d hi ho hd).1.1
    simp [Act.put, hd, hdn]
   ·have hSj : S j = true := by simpa [hji] using hS'
    obtain ⟨u, hu, hpu⟩ := h3 j o' d hj hSj ho' hd
    refine ⟨u, hput d u v hu (fun e => (hdst i o d hi ho e).2 j hj hji (by simp [dstOf, ho', hd])), ?_⟩
    have : raOf β' (sas sp j) j = raOf β (sas sp j) j := by unfold raOf; rw [hβ j hji]
    rw [this]; exact (raOf β (sas sp j) j).mono hz hpu
  have hx' : ∀ k j, k < N → (sas sp k).sto = some j → (k == i || S k) = true → (j == i || S j) = true := fun k j hk hs hSk => by
   by_cases hki : k = i
   ·subst hki
    have := (hb j (S1 k o j hk ho hs).2.1).2
    simp [this]
   ·have : S j = true := hx k j hk hs (by simpa [hki] using hSk)
    simp [this]
  have hat := hob.at i o (by rw [hget i hi]; exact ho)
  rw [Nat.zero_add] at hat
  unfold ObA at hat
  have hag' : Agr n (depFr ops (spq sp) (sas sp i).deps l0) a Z := agr_dep h2 (fun j hj d hd => by
    have h4 := b3 i hi j (by simpa [List.getD_eq_getElem?_getD, List.getElem?_map, hsa i hi] using hj)
    simp only [Bool.and_eq_true, Bool.not_eq_true', decide_eq_true_eq] at h4
    obtain ⟨⟨h5, h6⟩, h7⟩ := h4
    rw [List.getD_eq_getElem?_getD, ho, Option.getD_some, List.contains_iff_mem] at h6
    have hjal : (sas sp j).al = none := by
     rw [hals j _ h5] at h7
     simpa using h7
    obtain ⟨o2, ho2⟩ := hops j h5
    obtain ⟨v, hv1, hv2⟩ := h3 j o2 d h5 (hb j h6).2 ho2 (by simpa [dstOf, ho2] using hd)
    refine ⟨v, hv1, ?_⟩
    rw [hspq j h5]
    simpa [raOf, hjal] using hv2)
  cases hst : (sas sp i).sto with
  | some j =>
   rw [hst] at hat
   obtain ⟨hod, d, p, ncs, hd, hal, hlate, hok⟩ := hat
   obtain ⟨hjN, hjb, _, hial⟩ := S1 i o j hi ho hst
   have hSj := (hb j hjb).2
   obtain ⟨H', p1, p2⟩ := entL_sto (S := S) (β := β) (i := i) (j := j) (p := p) (ncs := ncs) sp 0 j (sas sp j) (by omega) (hsa j hjN) hal hlate hSj hun (fun t s q hs _ hq hne he => by
     obtain ⟨ht, rfl⟩ := lt_of t s hs
     have := (L1 t q ht hq).2
     rw [he, hst] at this
     simp at this; omega) (fun t s hs hn he => by
     obtain ⟨ht, rfl⟩ := lt_of t s hs
     rw [Nat.zero_add] at he; subst he
     exact hn hial)
   obtain ⟨o2, ho2⟩ := hops j hjN
   obtain ⟨v, hv1, hv2⟩ := h3 j o2 d hjN hSj ho2 (by simpa [dstOf, ho2] using hd)
   have hag2 : Agr n ((d, rv (.pointer (some ⟨β j, 0, none⟩))) :: depFr ops (spq sp) (sas sp i).deps l0) a Z := ⟨hag'.size, hag'.defers, fun k r hk => by
    rw [look_cons] at hk
    split at hk
    ·rename_i e; subst e; simp at hk; subst hk
     exact ⟨v, hv1, by simpa [raOf, hal] using hv2⟩
    ·exact hag'.tm k r hk⟩
   refine hok (β j) (H ++ H') a w Z K hag2 (h1.perm ((List.Perm.append_left H p1).trans List.perm_middle)) (fun v w' Z' hz _ hs' => hK _ _ ⟨β, Z', ?_, hagr v Z' hz, hvals v Z' β hz (fun _ _ => rfl) (fun hne => absurd hod hne), hx'⟩)
   exact hs'.perm (List.perm_middle.symm.trans (List.Perm.append_left H p2.symm))
  | none =>
   rw [hst] at hat
   have latene : ∀ t q, t < N → (sas sp t).late = some q → q.1 ≠ i := fun t q ht hq he => by
    have := (L1 t q ht hq).2
    rw [he, hst] at this; cases this
   cases hal : (sas sp i).al with
   | none =>
    rw [hal] at hat
    refine hat _ a w Z K hag' h1 (fun v w' Z' hz hp hst' => hK _ _ ⟨β, Z', ?_, hagr v Z' hz, hvals v Z' β hz (fun _ _ => rfl) (fun _ => by unfold raOf; rw [hal]; exact hp), hx'⟩)
    rw [entL_congr (S' := S) (β' := β) sp 0 (fun t s hs hn => by
     obtain ⟨ht, rfl⟩ := lt_of t s hs
     have : t ≠ i := fun e => by subst e; exact hn hal
     refine ⟨by simp [this], fun _ => ⟨rfl, fun q hq => ?_⟩⟩
     have := latene t q ht hq
     simp [this])]
    exact hst'
   | some p =>
    rw [hal] at hat
    have key := fun K' hK' => hat (H ++ entL S β sp 0) a w Z K' h1 hK'
    have h5 : ∀ b w', St c (.blk b p.1 p.2 :: (H ++ entL S β sp 0)) Z w' → K (a.put o.dst (.pointer (some ⟨b, 0, none⟩))) w' := fun b w' hst' => by
     refine hK _ _ ⟨fun j => if j = i then b else β j, Z, ?_, hagr _ Z (Fz.le.refl _), hvals _ Z _ (Fz.le.refl _) (fun j hj => by simp [hj]) (fun _ => by simp [raOf, hal, rv]), hx'⟩
     have hp := entL_put (S := S) (β := β) (i := i) (b := b) (p := p) sp 0 i (sas sp i) (by omega) (hsa i hi) hal hun (fun t s q hs _ hq => by
      obtain ⟨ht, rfl⟩ := lt_of t s hs
      exact latene t q ht hq) (fun q hq => by
       refine ⟨?_, latene i q hi hq⟩
       cases hS : S q.1 with
       | false => rfl
       | true =>
        obtain ⟨h6, h7⟩ := L1 i q hi hq
        have := hx q.1 i h6 h7 hS
        rw [this] at hun; cases hun)
     exact hst'.perm ((List.perm_middle.symm).trans (List.Perm.append_left H hp.symm))
    refine ⟨fun _ => (key K h5).2, fun hw' => ?_⟩
    rw [(key K h5).1] at hw'; cases hw'
 ·obtain ⟨β, Z, h1, h2, h3, _⟩ := hI
  refine h β a w Z (agr_zip h2 _ _ 0 (fun t o s d ht hs hd => ?_)) (by rw [← entL_all]; exact h1)
  obtain ⟨htN, rfl⟩ := lt_of t s hs
  rw [Nat.zero_add]
  exact h3 t o d htN rfl (by rw [← hget t htN]; exact ht) hd
end
section
variable {P : Program} {n : Nat} {c : Cx} {opsA : Array Oper} {Q : Exit → Act → World → Prop} {l l0 : Fr} {H : List Ent} {sp : List Sa}
theorem wc_rdak {id : Nat} {ops : List Oper} (N : Nat) (ks0 : List Nat) (sp : List Sa) (hob : OblA P n c ops.toArray Q ops sp l0 H 0 (ops.take N)) (h : ∀ β, WL P n c ops.toArray Q (ops.drop N) (zipA β (ops.take N) sp 0 l0) (H ++ entA β sp 0))
  (h0 : Kp ks0 l l0 := by repeat (first | exact kp_n | (apply kp_y; rfl) | (apply kp_d; rfl))) (hm : P.follows .mixedOrders = true := by kernel_rfl) (hB : okA n ops N (keysOf l0) (sp.map (·.deps)) (sp.map (·.al.isSome)) (sp.map (·.late.map (·.1))) (sp.map (·.sto)) = true := by kernel_rfl)
  (hsp : sp.length = N := by rfl) : WC P n c (.region id ops.toArray true) Q l H := wc_rda N sp hm hB h0.one hsp hob h
theorem oaq {all rest : List Oper} {d : Nat} {op : Op} {ty : TypeId} {pos : String} {af : Array Edge} {i : Nat}
  (hr : ∀ {H}, ORun P n c (depFr all (spq sp) (sas sp i).deps l0) H { dst := some d, op := op, type := ty, pos := pos, after := af, guard := none } (sas sp i).r) (h : OblA P n c opsA Q all sp l0 H (i + 1) rest) (ha : (sas sp i).al = none := by rfl) (hs : (sas sp i).sto = none := by rfl) :
  OblA P n c opsA Q all sp l0 H i ({ dst := some d, op := op, type := ty, pos := pos, after := af, guard := none } :: rest) := by
 refine ⟨?_, h⟩
 unfold ObA; rw [hs, ha]; exact fun _ => ok_v hr
theorem oaf {all rest : List Oper} {d : Nat} {op : Op} {ty : TypeId} {pos : String} {af : Array Edge} {i : Nat}
  (hr : ∀ {E}, ORun P n c (depFr all (spq sp) (sas sp i).deps l0) (H ++ E) { dst := some d, op := op, type := ty, pos := pos, after := af, guard := none } (sas sp i).r) (h : OblA P n c opsA Q all sp l0 H (i + 1) rest) (ha : (sas sp i).al = none := by rfl) (hs : (sas sp i).sto = none := by rfl) :
  OblA P n c opsA Q all sp l0 H i ({ dst := some d, op := op, type := ty, pos := pos, after := af, guard := none } :: rest) := by
 refine ⟨?_, h⟩
 unfold ObA; rw [hs, ha]; exact fun _ => ok_v hr
theorem oae {all : List Oper} {i : Nat} : OblA P n c opsA Q all sp l0 H i [] := trivial
end
structure Kza (ks : List Nat) (β : Nat → Nat) (os : List Oper) (sp : List Sa) (i : Nat) (l0 l1 : Fr) : Prop where
 go : Kp ks (zipA β os sp i l0) l1
section
variable {ks : List Nat} {β : Nat → Nat} {os : List Oper} {sp : List Sa} {i d : Nat} {l0 l1 : Fr} {ds : List Nat} {r : Rp} {p : List Rp × TypeId} {lt : Option (Nat × List Rp)} {so : Option Nat} {op : Op} {ty : TypeId} {pos : String} {af : Array Edge} {g : Option (Nat × Bool)}
theorem kza_y (h : ks.contains d = true) (t : Kza ks β os sp (i + 1) l0 l1) : Kza ks β ({ dst := some d, op := op, type := ty, pos := pos, after := af, guard := g } :: os) ({ deps := ds, r := r, sto := so } :: sp) i l0 ((d, r) :: l1) := ⟨kp_y h t.go⟩
theorem kza_a (h : ks.contains d = true) (t : Kza ks β os sp (i + 1) l0 l1) : Kza ks β ({ dst := some d, op := op, type := ty, pos := pos, after := af, guard := g } :: os) ({ deps := ds, r := r, al := some p, late := lt, sto := so } :: sp) i l0 ((d, rv (.pointer (some ⟨β i, 0, none⟩))) :: l1) := ⟨kp_y h t.go⟩
theorem kza_d {s : Sa} (h : ks.contains d = false) (t : Kza ks β os sp (i + 1) l0 l1) : Kza ks β ({ dst := some d, op := op, type := ty, pos := pos, after := af, guard := g } :: os) (s :: sp) i l0 l1 := ⟨kp_d h t.go⟩
theorem kza_u {s : Sa} (t : Kza ks β os sp (i + 1) l0 l1) : Kza ks β ({ dst := none, op := op, type := ty, pos := pos, after := af, guard := g } :: os) (s :: sp) i l0 l1 := ⟨t.go⟩
theorem kza_0 (t : Kp ks l0 l1) : Kza ks β [] [] i l0 l1 := ⟨t⟩
theorem wl_kza {P : Program} {n : Nat} {c : Cx} {opsA : Array Oper} {Q : Exit → Act → World → Prop} {rest : List Oper} {H H1 : List Ent} (ks : List Nat) (h : WL P n c opsA Q rest l1 H1)
  (hz : Kza ks β os sp i l0 l1 := by repeat (first | (apply kza_y; rfl) | (apply kza_a; rfl) | (apply kza_d; rfl) | apply kza_u | apply kza_0 | exact kp_n | (apply kp_y; rfl) | (apply kp_d; rfl))) (hH : H = H1 := by rfl) :
  WL P n c opsA Q rest (zipA β os sp i l0) H := fun a w Z ha hw => h a w Z (ha.subL hz.go.one) (hH ▸ hw)
end
section
variable {P : Program} {n : Nat} {c : Cx} {opsA : Array Oper} {Q : Exit → Act → World → Prop} {l l0 : Fr} {H : List Ent} {sp : List Sa}
theorem oac {all rest : List Oper} {o : Oper} {i : Nat} (hr : ∀ {E}, OpOk P n c opsA Q (depFr all (spq sp) (sas sp i).deps l0) (H ++ E) o (sas sp i).r (H ++ E)) (h : OblA P n c opsA Q all sp l0 H (i + 1) rest) (ha : (sas sp i).al = none := by rfl) (hs : (sas sp i).sto = none := by rfl) : OblA P n c opsA Q all sp l0 H i (o :: rest) := by
 refine ⟨?_, h⟩
 unfold ObA; rw [hs, ha]; exact fun _ => hr
end
end Go.Proofs.YtkalifgebccpcaaGreatDoor.Q

/-
 More rules: tests of slices for nil. Plain theorems over any program; no condition.
-/
namespace Go.Proofs.YtkalifgebccpcaaGreatDoor.Q
open Go Go.RowKit
set_option linter.unusedVariables false
set_option linter.unusedSimpArgs false
def rBx (p : Bool → Prop) : Rp := ⟨fun _ v => ∃ b, v = .bool b ∧ p b, fun _ h => h, true, fun _ Z v ⟨b, e, _⟩ => by rw [e]; rfl⟩
section
variable {P : Program} {n : Nat} {c : Cx} {ops : Array Oper} {Q : Exit → Act → World → Prop} {rest : List Oper} {l : Fr} {H : List Ent} {d : Option Nat} {ty rty t e : TypeId} {pos : String} {af : Array Edge} {g : Option (Nat × Bool)} {r : Rp} {x : Operand} {cx cy : Code} {sz : Nat} {xs : List (List Rp)}
theorem wc_condx {o : Operand} {p : Bool → Prop} (ho : ev l o = some (rBx p)) (h1 : p true → WC P n c cx Q l H) (h2 : p false → WC P n c cy Q l H) : WC P n c (.cond o cx cy) Q l H := fun a w Z ha hw => by
 obtain ⟨b, e, hp⟩ := ha.ev ho
 exact wp_cond_split e (fun e => h1 (e ▸ hp) a w Z ha hw) (fun e => h2 (e ▸ hp) a w Z ha hw)
theorem o_slnil_z (ht : P.underlying t = some (.slice e)) (h : ev l x = some (rSl sz xs)) : ORun P n c l H { dst := d, op := .binOp .eql t x (.const (.slice none 0 0)) rty, type := ty, pos := pos, after := af, guard := g } (rBx (fun b => b = true → xs = [])) := fun a w Z ha hw => by
 obtain ⟨A, cap, e1, h1, h2, h3, h4⟩ := ha.ev h
 refine ⟨.bool A.isNone, ⟨_, rfl, fun hb => ?_⟩, ?_⟩
 ·cases A with
  | some a => cases hb
  | none =>
   have := h3 rfl
   exact List.length_eq_zero_iff.1 (by omega)
 ·have := run_equal_slice_nil (P := P) w t e A xs.length cap ht
  have e2 : a.eval (.const (.slice none 0 0)) = .slice none 0 0 := rfl
  simp [execOp, e1, e2, binOp, this, eqGuard]
end
end Go.Proofs.YtkalifgebccpcaaGreatDoor.Q
