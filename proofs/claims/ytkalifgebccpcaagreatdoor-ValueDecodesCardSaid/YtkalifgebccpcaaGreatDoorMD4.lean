/-
  Texts of the proof, put together: PVd, WVd, PVe, WVe, PVf.
-/
import Derived.Test.YtkalifgebccpcaaGreatDoorMD3
import Derived.Laws.StructEq
/-
 What functions compute, with checks: plain definitions, printed by a small program of ours (gq.py). No program in sight.
-/
namespace Go.Proofs.YtkalifgebccpcaaGreatDoor
open Go
set_option linter.unusedVariables false
structure TValueReader where
 fS : Str
 fAt : Int
 fCells : (List TApiCell)
 fGreat : Bool
 deriving DecidableEq, Inhabited
def slHasPrefix (s : Str) (p : Str) : Option (Bool) :=
 chk (imp (decide ((p.length : Int) ≤ (s.length : Int))) (inC (p.length : Int) (s.length : Int))) <| some ((decide ((p.length : Int) ≤ (s.length : Int))) && (decide ((List.take (Int.toNat (p.length : Int)) s) = p)))

def hasPrefix (s : Str) (p : Str) : Option (Bool) :=
 obn (slHasPrefix s p) fun r1 => some r1

def vTake (q : TValueReader) (s : Str) : Option (Bool × TValueReader) :=
 chk (inC q.fAt (q.fS.length : Int)) <| obn (hasPrefix (List.drop (Int.toNat q.fAt) q.fS) s) fun r3 => cnd (!r3) (some (false, q)) (chk (inK .i64 (q.fAt + (s.length : Int))) <| some (true, (TValueReader.mk q.fS (q.fAt + (s.length : Int)) q.fCells q.fGreat)))

def vRStr_j2 (x366 : (List Int)) (x462 : Int) (x463 : Int) : Option (Stp ((List Int) × Int) (Out (Str × Bool × TValueReader) (Int))) :=
 chk (inA 1 (x366.length + ([x462] : List Int).length)) <| some (.next (x366 ++ ([x462] : List Int), x463))

def vRStr_b1 (r1 : Bool × TValueReader) (x366 : (List Int)) (x368 : Int) : Option (Stp ((List Int) × Int) (Out (Str × Bool × TValueReader) (Int))) :=
 cnd (decide (x368 < (r1.2.fS.length : Int))) (chk (inR x368 (r1.2.fS.length : Int)) <| chk (inK .i64 (x368 + 1)) <| cnd (decide ((bat r1.2.fS x368) = 34)) (some (.out (.ret (ofI x366, true, (TValueReader.mk r1.2.fS (x368 + 1) r1.2.fCells r1.2.fGreat))))) (cnd (((decide ((bat r1.2.fS x368) < 32)) || (decide (126 < (bat r1.2.fS x368))))) (some (.out (.ret (([] : Str), false, (TValueReader.mk r1.2.fS (x368 + 1) r1.2.fCells r1.2.fGreat))))) (cnd (decide ((bat r1.2.fS x368) = 92)) (chk (imp (!(decide ((r1.2.fS.length : Int) ≤ (x368 + 1)))) (inR (x368 + 1) (r1.2.fS.length : Int))) <| cnd (((decide ((r1.2.fS.length : Int) ≤ (x368 + 1))) || ((!decide ((bat r1.2.fS (x368 + 1)) = 34)) && (!decide ((bat r1.2.fS (x368 + 1)) = 92))))) (some (.out (.ret (([] : Str), false, (TValueReader.mk r1.2.fS (x368 + 1) r1.2.fCells r1.2.fGreat))))) (chk (inR (x368 + 1) (r1.2.fS.length : Int)) <| chk (inK .i64 ((x368 + 1) + 1)) <| vRStr_j2 x366 (bat r1.2.fS (x368 + 1)) ((x368 + 1) + 1))) (vRStr_j2 x366 (bat r1.2.fS x368) (x368 + 1))))) (some (.out (.go x368)))

def vRStr_k1 (r1 : Bool × TValueReader) (x425 : Int) : Option (Str × Bool × TValueReader) :=
 some (([] : Str), false, (TValueReader.mk r1.2.fS x425 r1.2.fCells r1.2.fGreat))

def vRStr (F : Nat) (q : TValueReader) : Option (Str × Bool × TValueReader) :=
 obn (vTake q ([34] : Str)) fun r1 => cnd (!r1.1) (some (([] : Str), false, r1.2)) (obn (lop (fun σ => vRStr_b1 r1 σ.1 σ.2) F (([] : List Int), r1.2.fAt)) (oute fun ν => vRStr_k1 r1 ν))

def vRInt_b1 (r1 : Bool × TValueReader) (x75 : Int) : Option (Stp (Int) (Out (Bool × TValueReader) (Int))) :=
 chk (imp (decide (x75 < (r1.2.fS.length : Int))) (inR x75 (r1.2.fS.length : Int))) <| cnd (((decide (x75 < (r1.2.fS.length : Int))) && ((decide (48 ≤ (bat r1.2.fS x75))) && (decide ((bat r1.2.fS x75) ≤ 57))))) (chk (inK .i64 (x75 + 1)) <| some (.next (x75 + 1))) (some (.out (.go x75)))

def vRInt_k1 (q : TValueReader) (r1 : Bool × TValueReader) (x85 : Int) : Option (Bool × TValueReader) :=
 chk (inC q.fAt x85) <| chk (inC x85 (r1.2.fS.length : Int)) <| chk (inA 1 (List.take (Int.toNat x85 - Int.toNat q.fAt) (List.drop (Int.toNat q.fAt) r1.2.fS)).length) <| cnd (((decide ((parseE (List.take (Int.toNat x85 - Int.toNat q.fAt) (List.drop (Int.toNat q.fAt) r1.2.fS))) = 1)) || (decide (r1.2.fAt = x85)))) (some (false, (TValueReader.mk r1.2.fS x85 r1.2.fCells r1.2.fGreat))) (chk (inA 40 (r1.2.fCells.length + ([(TApiCell.mk 3 (parseV (List.take (Int.toNat x85 - Int.toNat q.fAt) (List.drop (Int.toNat q.fAt) r1.2.fS))) ([] : Str) 0)] : List TApiCell).length)) <| some (true, (TValueReader.mk r1.2.fS x85 (r1.2.fCells ++ ([(TApiCell.mk 3 (parseV (List.take (Int.toNat x85 - Int.toNat q.fAt) (List.drop (Int.toNat q.fAt) r1.2.fS))) ([] : Str) 0)] : List TApiCell)) (r1.2.fGreat || (!decide ((parseE (List.take (Int.toNat x85 - Int.toNat q.fAt) (List.drop (Int.toNat q.fAt) r1.2.fS))) = 0))))))

def vRInt (F : Nat) (q : TValueReader) : Option (Bool × TValueReader) :=
 obn (vTake q ([45] : Str)) fun r1 => obn (lop (fun σ => vRInt_b1 r1 σ) F r1.2.fAt) (oute fun ν => vRInt_k1 q r1 ν)

def vRScalar_j1 (x57 : Str) (x58 : Int) (x59 : (List TApiCell)) (x61 : Bool) : Option (Bool × TValueReader) :=
 some (true, (TValueReader.mk x57 x58 x59 x61))

def vRScalar (F : Nat) (q : TValueReader) : Option (Bool × TValueReader) :=
 obn (vTake q ([110, 117, 108, 108] : Str)) fun r62 => cnd (r62.1) (chk (inA 40 (r62.2.fCells.length + ([(TApiCell.mk 1 0 ([] : Str) 0)] : List TApiCell).length)) <| vRScalar_j1 r62.2.fS r62.2.fAt (r62.2.fCells ++ ([(TApiCell.mk 1 0 ([] : Str) 0)] : List TApiCell)) r62.2.fGreat) (obn (vTake r62.2 ([116, 114, 117, 101] : Str)) fun r73 => cnd (r73.1) (chk (inA 40 (r73.2.fCells.length + ([(TApiCell.mk 2 1 ([] : Str) 0)] : List TApiCell).length)) <| vRScalar_j1 r73.2.fS r73.2.fAt (r73.2.fCells ++ ([(TApiCell.mk 2 1 ([] : Str) 0)] : List TApiCell)) r73.2.fGreat) (obn (vTake r73.2 ([102, 97, 108, 115, 101] : Str)) fun r84 => cnd (r84.1) (chk (inA 40 (r84.2.fCells.length + ([(TApiCell.mk 2 0 ([] : Str) 0)] : List TApiCell).length)) <| vRScalar_j1 r84.2.fS r84.2.fAt (r84.2.fCells ++ ([(TApiCell.mk 2 0 ([] : Str) 0)] : List TApiCell)) r84.2.fGreat) (chk (inC r84.2.fAt (r84.2.fS.length : Int)) <| obn (hasPrefix (List.drop (Int.toNat r84.2.fAt) r84.2.fS) ([34] : Str)) fun r97 => cnd (r97) (obn (vRStr F r84.2) fun r102 => cnd (!r102.2.1) (some (false, r102.2.2)) (chk (inA 40 (r102.2.2.fCells.length + ([(TApiCell.mk 4 0 r102.1 0)] : List TApiCell).length)) <| vRScalar_j1 r102.2.2.fS r102.2.2.fAt (r102.2.2.fCells ++ ([(TApiCell.mk 4 0 r102.1 0)] : List TApiCell)) r102.2.2.fGreat)) (obn (vRInt F r84.2) fun r114 => some (r114.1, r114.2)))))

def vRValue_b2 (rec_vRValue : TValueReader → Option (Bool × TValueReader)) (x16 : (List TApiCell)) (x107 : Int) (x108 : Str) (x109 : Int) (x110 : (List TApiCell)) (x112 : Bool) : Option (Stp (Int × Str × Int × (List TApiCell) × Bool) (Out (Bool × TValueReader) (Unit))) :=
 obn (rec_vRValue (TValueReader.mk x108 x109 x110 x112)) fun r150 => cnd (!r150.1) (some (.out (.ret (false, r150.2)))) (chk (inR (x16.length : Int) (r150.2.fCells.length : Int)) <| bnd (List.set r150.2.fCells (Int.toNat (x16.length : Int)) (TApiCell.mk ((at' r150.2.fCells (x16.length : Int)).fKind) ((at' r150.2.fCells (x16.length : Int)).fInt) ((at' r150.2.fCells (x16.length : Int)).fStr) x107)) fun r160 => obn (vTake (TValueReader.mk r150.2.fS r150.2.fAt r160 r150.2.fGreat) ([93] : Str)) fun r163 => cnd (r163.1) (some (.out (.ret (true, r163.2)))) (obn (vTake r163.2 ([44] : Str)) fun r171 => cnd (!r171.1) (some (.out (.ret (false, r171.2)))) (chk (inK .i64 (x107 + 1)) <| some (.next (x107 + 1, r171.2.fS, r171.2.fAt, r171.2.fCells, r171.2.fGreat)))))

def vRValue_k2  : Option (Bool × TValueReader) :=
 none

def vRValue_j4 (rec_vRValue : TValueReader → Option (Bool × TValueReader)) (x16 : (List TApiCell)) (x349 : Int) (r449 : Str × Bool × TValueReader) (x473 : Bool) (x474 : Bool) (x475 : Bool) (x476 : Str) (x477 : Int) (x478 : (List TApiCell)) (x480 : Bool) : Option (Stp (Str × Int × Str × Int × (List TApiCell) × Bool) (Out (Bool × TValueReader) (Unit))) :=
 cnd (x475) (some (.out (.ret (false, (TValueReader.mk x476 x477 x478 x480))))) (chk (inA 40 (x478.length + ([(TApiCell.mk 4 0 r449.1 0)] : List TApiCell).length)) <| obn (rec_vRValue (TValueReader.mk x476 x477 (x478 ++ ([(TApiCell.mk 4 0 r449.1 0)] : List TApiCell)) x480)) fun r507 => cnd (!r507.1) (some (.out (.ret (false, r507.2)))) (chk (inR (x16.length : Int) (r507.2.fCells.length : Int)) <| bnd (List.set r507.2.fCells (Int.toNat (x16.length : Int)) (TApiCell.mk ((at' r507.2.fCells (x16.length : Int)).fKind) ((at' r507.2.fCells (x16.length : Int)).fInt) ((at' r507.2.fCells (x16.length : Int)).fStr) x349)) fun r517 => obn (vTake (TValueReader.mk r507.2.fS r507.2.fAt r517 r507.2.fGreat) ([125] : Str)) fun r520 => cnd (r520.1) (some (.out (.ret (true, r520.2)))) (obn (vTake r520.2 ([44] : Str)) fun r528 => cnd (!r528.1) (some (.out (.ret (false, r528.2)))) (chk (inK .i64 (x349 + 1)) <| some (.next (r449.1, x349 + 1, r528.2.fS, r528.2.fAt, r528.2.fCells, r528.2.fGreat))))))

def vRValue_b3 (F : Nat) (rec_vRValue : TValueReader → Option (Bool × TValueReader)) (x16 : (List TApiCell)) (x348 : Str) (x349 : Int) (x350 : Str) (x351 : Int) (x352 : (List TApiCell)) (x354 : Bool) : Option (Stp (Str × Int × Str × Int × (List TApiCell) × Bool) (Out (Bool × TValueReader) (Unit))) :=
 obn (vRStr F (TValueReader.mk x350 x351 x352 x354)) fun r449 => cnd (!r449.2.1) (vRValue_j4 rec_vRValue x16 x349 r449 true true true r449.2.2.fS r449.2.2.fAt r449.2.2.fCells r449.2.2.fGreat) (cnd (decide (1 < x349)) (cnd (sLess r449.1 x348 || decide (r449.1 = x348)) (vRValue_j4 rec_vRValue x16 x349 r449 (sLess r449.1 x348 || decide (r449.1 = x348)) (sLess r449.1 x348 || decide (r449.1 = x348)) true r449.2.2.fS r449.2.2.fAt r449.2.2.fCells r449.2.2.fGreat) (obn (vTake r449.2.2 ([58] : Str)) fun r489 => vRValue_j4 rec_vRValue x16 x349 r449 (sLess r449.1 x348 || decide (r449.1 = x348)) (sLess r449.1 x348 || decide (r449.1 = x348)) (!r489.1) r489.2.fS r489.2.fAt r489.2.fCells r489.2.fGreat)) (obn (vTake r449.2.2 ([58] : Str)) fun r494 => vRValue_j4 rec_vRValue x16 x349 r449 false false (!r494.1) r494.2.fS r494.2.fAt r494.2.fCells r494.2.fGreat))

def vRValue_k3  : Option (Bool × TValueReader) :=
 none

def vRValue_j1 (F : Nat) (rec_vRValue : TValueReader → Option (Bool × TValueReader)) (r1 : Bool × TValueReader) (x13 : Bool) (x14 : Str) (x15 : Int) (x16 : (List TApiCell)) (x18 : Bool) : Option (Bool × TValueReader) :=
 cnd (x13) (obn (vRScalar F (TValueReader.mk x14 x15 x16 x18)) fun r29 => some (r29.1, r29.2)) (cnd (r1.1) (chk (inA 40 (x16.length + ([(TApiCell.mk 5 0 ([] : Str) 0)] : List TApiCell).length)) <| obn (vTake (TValueReader.mk x14 x15 (x16 ++ ([(TApiCell.mk 5 0 ([] : Str) 0)] : List TApiCell)) x18) ([93] : Str)) fun r40 => cnd (r40.1) (some (true, r40.2)) (obn (lop (fun σ => vRValue_b2 rec_vRValue x16 σ.1 σ.2.1 σ.2.2.1 σ.2.2.2.1 σ.2.2.2.2) F (1, r40.2.fS, r40.2.fAt, r40.2.fCells, r40.2.fGreat)) (oute fun ν => vRValue_k2 ))) (chk (inA 40 (x16.length + ([(TApiCell.mk 6 0 ([] : Str) 0)] : List TApiCell).length)) <| obn (vTake (TValueReader.mk x14 x15 (x16 ++ ([(TApiCell.mk 6 0 ([] : Str) 0)] : List TApiCell)) x18) ([125] : Str)) fun r188 => cnd (r188.1) (some (true, r188.2)) (obn (lop (fun σ => vRValue_b3 F rec_vRValue x16 σ.1 σ.2.1 σ.2.2.1 σ.2.2.2.1 σ.2.2.2.2.1 σ.2.2.2.2.2) F (([] : Str), 1, r188.2.fS, r188.2.fAt, r188.2.fCells, r188.2.fGreat)) (oute fun ν => vRValue_k3 ))))

def vRValuem (F : Nat) (rec_vRValue : TValueReader → Option (Bool × TValueReader)) (q : TValueReader) : Option (Bool × TValueReader) :=
 obn (vTake q ([91] : Str)) fun r1 => cnd (!r1.1) (obn (vTake r1.2 ([123] : Str)) fun r21 => vRValue_j1 F rec_vRValue r1 (!r21.1) r21.2.fS r21.2.fAt r21.2.fCells r21.2.fGreat) (vRValue_j1 F rec_vRValue r1 false r1.2.fS r1.2.fAt r1.2.fCells r1.2.fGreat)

def vRValue : Nat → TValueReader → Option (Bool × TValueReader)
 | 0, _ => none
 | nn + 1, q => vRValuem nn (vRValue nn) q

def vDecode_j1 (F : Nat) (x12 : Bool) (x13 : Str) (x14 : Int) (x15 : (List TApiCell)) (x17 : Bool) : Option ((List TApiCell) × Int) :=
 cnd (x12) (some (([] : List TApiCell), 1)) (cnd (x17) (some (([] : List TApiCell), 2)) (obn (vChecked F x15) fun r32 => some (r32.1, r32.2)))

def vDecode (F : Nat) (s : Str) : Option ((List TApiCell) × Int) :=
 cnd (decide (4000 < (s.length : Int))) (some (([] : List TApiCell), 3)) (obn (vRValue F (TValueReader.mk s 0 ([] : List TApiCell) false)) fun r18 => cnd (!r18.1) (vDecode_j1 F true r18.2.fS r18.2.fAt r18.2.fCells r18.2.fGreat) (vDecode_j1 F (!decide (r18.2.fAt = (s.length : Int))) r18.2.fS r18.2.fAt r18.2.fCells r18.2.fGreat))

end Go.Proofs.YtkalifgebccpcaaGreatDoor

/-
  Walks, printed by a small program of ours (gq.py).
-/
namespace Go.Proofs.YtkalifgebccpcaaGreatDoor.Q
open Go Go.RowKit
set_option linter.unusedVariables false
set_option linter.unusedSimpArgs false
set_option maxRecDepth 100000
set_option maxHeartbeats 4000000
theorem built57 (parts : List (Nat × Value)) : Tryz.prog.built 57 parts = Instr.fill (fun i => (#[(0, 1), (1, 1), (2, 1), (3, 1)] : Array (Nat × Nat))[i]?) #[(.string ⟨#[]⟩), (.int .i64 0), ((.slice none 0 0)), (.bool false)] parts := by kernel_rfl
theorem o_build57_0 {n : Nat} {c : Cx} {l : Fr} {H : List Ent} {d : Option Nat} {ty : TypeId} {pos : String} {af : Array Edge} {g : Option (Nat × Bool)} {x0 : Operand} {r0 : Rp} (h0 : ev l x0 = some r0) (u0 : r0.one = true) : ORun Tryz.prog n c l H { dst := d, op := .build 57 #[(0, x0)], type := ty, pos := pos, after := af, guard := g } (rAgg [r0, rI .i64 0, rv (.slice none 0 0), rB false]) := fun a w Z ha _ => by
  have p0 := ha.ev h0
  have c0 := cells_one (r0.hone u0 Z _ p0)
  have hb : Tryz.prog.built 57 [(0, a.eval x0)] = some #[a.eval x0, (.int .i64 0), ((.slice none 0 0)), (.bool false)] := by
    rw [built57]
    generalize a.eval x0 = v0 at *
    simp [Instr.fill, c0]
  refine ⟨.agg #[a.eval x0, (.int .i64 0), ((.slice none 0 0)), (.bool false)], ⟨[a.eval x0, (.int .i64 0), ((.slice none 0 0)), (.bool false)], rfl, p0, rfl, rfl, rfl, trivial⟩, ?_⟩
  have := run_build w 57 #[(0, a.eval x0)] _ (by simpa using hb)
  simp [execOp, this]
theorem slHasPrefix_w (s : Str) (p : Str) (r : Bool) (h : slHasPrefix s p = some r) : Fn Tryz.prog GE 103 [rS s, rS p] [] (fun R H => R = rB r ∧ H = []) := by
 refine enter (n := 18) Tryz.func103 rfl Tryz.ntmps103 rfl (fun w Z => ?_)
 refine wc_as (l' := [(0, rS s), (1, rS p)]) (H' := []) rfl rfl ?_
 unfold slHasPrefix at h
 refine wc_sr ?_
 refine wv (r := rB false) (o_assign rfl) ?_
 refine wl_x ?_
 obtain ⟨g1, h2⟩ := chk_e h
 refine wc_seq_mid [(4, rB ((decide ((p.length : Int) ≤ (s.length : Int))) && (decide ((List.take (Int.toNat (p.length : Int)) s) = p))))] [] ?_ ?_
 ·refine wc_region ?_
  refine wm rfl ?_
  refine wv (r := rI .i64 (s.length : Int)) (o_len_s Tryz.underlying9 rfl) ?_
  refine wm rfl ?_
  refine wv (r := rI .i64 (p.length : Int)) (o_len_s Tryz.underlying9 rfl) ?_
  refine wv (r := rB (decide ((p.length : Int) ≤ (s.length : Int)))) (o_ge rfl rfl) ?_
  refine wm rfl ?_
  refine bsplit (decide ((p.length : Int) ≤ (s.length : Int))) (fun c3 => ?_) (fun c3 => ?_)
  ·refine wl_on rfl rfl c3 ?_
   refine wm rfl ?_
   refine wl_on rfl rfl c3 ?_
   refine wm rfl ?_
   refine wl_on rfl rfl c3 ?_
   refine wv (r := rI .i64 (p.length : Int)) (o_len_s Tryz.underlying9 rfl) ?_
   refine wl_on rfl rfl c3 ?_
   refine wv (r := rS (List.take (Int.toNat (p.length : Int)) s)) (o_slice_hi Tryz.underlying9 rfl rfl (imp_t g1 c3)) ?_
   refine wl_on rfl rfl c3 ?_
   refine wm rfl ?_
   refine wl_on rfl rfl c3 ?_
   refine wv (r := rB (decide ((List.take (Int.toNat (p.length : Int)) s) = p))) (o_seq rfl rfl) ?_
   refine wpt rfl c3 rfl ?_
   refine wa rfl ?_
   refine wl_nil ?_
   exact wk_then (wk_mid (Sub.c (by first | rfl | (simp only [c3]; rfl) | simp [c3]) Sub.nil) sN)
  ·refine wl_off rfl rfl c3 rfl ?_
   refine wl_off rfl rfl c3 rfl ?_
   refine wl_off rfl rfl c3 rfl ?_
   refine wl_off rfl rfl c3 rfl ?_
   refine wl_off rfl rfl c3 rfl ?_
   refine wl_off rfl rfl c3 rfl ?_
   refine wv (r := rB false) (o_pick_f (b := decide ((p.length : Int) ≤ (s.length : Int))) rfl c3 rfl) ?_
   refine wa rfl ?_
   refine wl_nil ?_
   exact wk_then (wk_mid (Sub.c (by first | rfl | (simp only [c3]; rfl) | simp [c3]) Sub.nil) sN)
 refine wc_ret ?_
 obtain rfl := some_e h2
 exact wk_ret (r_1 Tryz.results103 (rv_t rfl)) sN ⟨rfl, rfl⟩

theorem hasPrefix_w (s : Str) (p : Str) (r : Bool) (h : hasPrefix s p = some r) : Fn Tryz.prog GE 94 [rS s, rS p] [] (fun R H => R = rB r ∧ H = []) := by
 refine enter (n := 8) Tryz.func94 rfl Tryz.ntmps94 rfl (fun w Z => ?_)
 refine wc_as (l' := [(0, rS s), (1, rS p)]) (H' := []) rfl rfl ?_
 unfold hasPrefix at h
 refine wc_sr ?_
 refine wv (r := rB false) (o_assign rfl) ?_
 refine wl_y ?_
 refine wm rfl ?_
 refine wm rfl ?_
 obtain ⟨r1, e3, h2⟩ := obn_e h
 refine wc0 Tryz.call103 (slHasPrefix_w s p r1 e3) rfl ?_
 refine wa rfl ?_
 refine wl_x ?_
 refine wc_ret ?_
 obtain rfl := some_e h2
 exact wk_ret (r_1 Tryz.results94 (rv_t rfl)) sN ⟨rfl, rfl⟩

theorem vTake_w (b_q : Nat) (v_q_2 : Value) (q : TValueReader) (s : Str) (r : Bool × TValueReader) (h : vTake q s = some r) : Fn Tryz.prog GE 64 [rv (.pointer (some ⟨b_q, 0, none⟩)), rS s] [.blk b_q [rS q.fS, rI .i64 q.fAt, rv v_q_2, rB q.fGreat] 57, .row v_q_2 63 4 (List.map eTApiCell q.fCells)] (fun R H => ∃ w0_2 : Value, R = rB r.1 ∧ H = [.blk b_q [rS r.2.fS, rI .i64 r.2.fAt, rv w0_2, rB r.2.fGreat] 57, .row w0_2 63 4 (List.map eTApiCell r.2.fCells)]) := by
 refine enter (n := 26) Tryz.func64 rfl Tryz.ntmps64 rfl (fun w Z => ?_)
 refine wc_as (l' := [(0, rv (.pointer (some ⟨b_q, 0, none⟩))), (1, rS s)]) (H' := [.blk b_q [rS q.fS, rI .i64 q.fAt, rv v_q_2, rB q.fGreat] 57, .row v_q_2 63 4 (List.map eTApiCell q.fCells)]) rfl rfl ?_
 unfold vTake at h
 refine wc_sr ?_
 refine wv (r := rB false) (o_assign rfl) ?_
 refine wl_x ?_
 refine wc_seq ?_
 refine wc_seq ?_
 obtain ⟨g1, h2⟩ := chk_e h
 obtain ⟨r3, e5, h4⟩ := obn_e h2
 refine wc_rd [⟨[], rv (.pointer (some ⟨b_q, 0, none⟩)), 0⟩, ⟨[0], rv (.pointer (some ⟨b_q, 0, none⟩)), 0⟩, ⟨[1], rv (.pointer (some ⟨b_q, 0, none⟩)), 0⟩, ⟨[2], rS q.fS, 1⟩, ⟨[], rv (.pointer (some ⟨b_q, 0, none⟩)), 0⟩, ⟨[4], rv (.pointer (some ⟨b_q, 0, none⟩)), 0⟩, ⟨[5], rv (.pointer (some ⟨b_q, 1, none⟩)), 0⟩, ⟨[6], rI .i64 q.fAt, 1⟩, ⟨[3, 7], rS (List.drop (Int.toNat q.fAt) q.fS), 0⟩, ⟨[], rS s, 0⟩, ⟨[8, 9], rB r3, 0⟩, ⟨[10], rB (!r3), 0⟩] (rle [(13, [.blk b_q [rS q.fS, rI .i64 q.fAt, rv v_q_2, rB q.fGreat] 57, .row v_q_2 63 4 (List.map eTApiCell q.fCells)])]) [(0, rv (.pointer (some ⟨b_q, 0, none⟩))), (1, rS s), (4, rB false)] (by kernel_rfl) (by kernel_rfl) (Sub.c rfl (Sub.c rfl (Sub.c rfl Sub.nil))) rfl rfl ?_ ?_
 ·refine obl_q rfl (fun H => ok_v (o_move rfl)) ?_
  refine obl_q rfl (fun H => ok_v (r := rv (.pointer (some ⟨b_q, 0, none⟩))) (o_nilcheck rfl)) ?_
  refine obl_q rfl (fun H => ok_v (r := rv (.pointer (some ⟨b_q, 0, none⟩))) (o_fieldAddr Tryz.underlying57 rfl Tryz.sizeOf9 rfl rfl)) ?_
  refine obl_f rfl (ok_v (r := rS q.fS) (o_load (i := 0) Tryz.isAgg9 rfl rfl rfl)) ?_
  refine obl_q rfl (fun H => ok_v (o_move rfl)) ?_
  refine obl_q rfl (fun H => ok_v (r := rv (.pointer (some ⟨b_q, 0, none⟩))) (o_nilcheck rfl)) ?_
  refine obl_q rfl (fun H => ok_v (r := rv (.pointer (some ⟨b_q, 1, none⟩))) (o_fieldAddr Tryz.underlying57 rfl Tryz.sizeOf3 rfl rfl)) ?_
  refine obl_f rfl (ok_v (r := rI .i64 q.fAt) (o_load (i := 0) Tryz.isAgg3 rfl rfl rfl)) ?_
  refine obl_q rfl (fun H => ok_v (r := rS (List.drop (Int.toNat q.fAt) q.fS)) (o_slice_lo Tryz.underlying9 rfl rfl g1)) ?_
  refine obl_q rfl (fun H => ok_v (o_move rfl)) ?_
  refine obl_q rfl (fun H => ok_c0 Tryz.call94 (hasPrefix_w (List.drop (Int.toNat q.fAt) q.fS) s r3 e5) rfl) ?_
  refine obl_q rfl (fun H => ok_v (r := rB (!r3)) (o_not rfl)) ?_
  exact obl_e
 refine wk_as (l' := [(5, rv (.pointer (some ⟨b_q, 0, none⟩))), (6, rv (.pointer (some ⟨b_q, 0, none⟩))), (7, rv (.pointer (some ⟨b_q, 0, none⟩))), (8, rS q.fS), (9, rv (.pointer (some ⟨b_q, 0, none⟩))), (10, rv (.pointer (some ⟨b_q, 0, none⟩))), (11, rv (.pointer (some ⟨b_q, 1, none⟩))), (12, rI .i64 q.fAt), (13, rS (List.drop (Int.toNat q.fAt) q.fS)), (14, rS s), (15, rB r3), (16, rB (!r3)), (0, rv (.pointer (some ⟨b_q, 0, none⟩))), (1, rS s), (4, rB false)]) (H' := [.blk b_q [rS q.fS, rI .i64 q.fAt, rv v_q_2, rB q.fGreat] 57, .row v_q_2 63 4 (List.map eTApiCell q.fCells)]) rfl rfl ?_
 refine wk_x ?_
 refine wc_cond (b := !r3) rfl (fun c6 => ?_) (fun c6 => ?_)
 ·have h7 := cnd_t c6 h4
  refine wc_sr ?_
  refine wv (r := rB false) (o_assign rfl) ?_
  refine wl_x ?_
  refine wc_ret ?_
  refine wk_then_ret ?_
  obtain rfl := some_e h7
  exact wk_ret (r_1 Tryz.results64 (rv_t rfl)) (sC (sC sN)) ⟨v_q_2, rfl, rfl⟩
 ·have h8 := cnd_f c6 h4
  refine wc_skip ?_
  refine wk_x ?_
  refine wc_sr ?_
  refine wm rfl ?_
  refine wv (r := rv (.pointer (some ⟨b_q, 0, none⟩))) (o_nilcheck rfl) ?_
  refine wv (r := rv (.pointer (some ⟨b_q, 1, none⟩))) (o_fieldAddr Tryz.underlying57 rfl Tryz.sizeOf3 rfl rfl) ?_
  refine wv (r := rI .i64 q.fAt) (o_load (i := 0) Tryz.isAgg3 rfl rfl rfl) ?_
  refine wm rfl ?_
  refine wv (r := rI .i64 (s.length : Int)) (o_len_s Tryz.underlying9 rfl) ?_
  obtain ⟨g9, h10⟩ := chk_e h8
  refine wv (r := rI .i64 (q.fAt + (s.length : Int))) (o_add rfl rfl g9) ?_
  refine wv (r := rv (.pointer (some ⟨b_q, 0, none⟩))) (o_nilcheck rfl) ?_
  refine wv (r := rv (.pointer (some ⟨b_q, 1, none⟩))) (o_fieldAddr Tryz.underlying57 rfl Tryz.sizeOf3 rfl rfl) ?_
  refine u_store (i := 0) Tryz.sizeOf3 rfl rfl (one_c rfl) rfl rfl (cs' := [rS q.fS, rI .i64 (q.fAt + (s.length : Int)), rv v_q_2, rB q.fGreat]) rfl (H' := [.blk b_q [rS q.fS, rI .i64 (q.fAt + (s.length : Int)), rv v_q_2, rB q.fGreat] 57, .row v_q_2 63 4 (List.map eTApiCell q.fCells)]) rfl ?_
  refine wl_y ?_
  refine wv (r := rB true) (o_assign rfl) ?_
  refine wl_x ?_
  refine wc_ret ?_
  obtain rfl := some_e h10
  exact wk_ret (r_1 Tryz.results64 (rv_t rfl)) (sC (sC sN)) ⟨v_q_2, rfl, rfl⟩

theorem vRStr_w (F : Nat) (b_q : Nat) (v_q_2 : Value) (q : TValueReader) (r : Str × Bool × TValueReader) (h : vRStr F q = some r) : Fn Tryz.prog GE 66 [rv (.pointer (some ⟨b_q, 0, none⟩))] [.blk b_q [rS q.fS, rI .i64 q.fAt, rv v_q_2, rB q.fGreat] 57, .row v_q_2 63 4 (List.map eTApiCell q.fCells)] (fun R H => ∃ w0_2 : Value, R = rTup [rS r.1, rB r.2.1] ∧ H = [.blk b_q [rS r.2.2.fS, rI .i64 r.2.2.fAt, rv w0_2, rB r.2.2.fGreat] 57, .row w0_2 63 4 (List.map eTApiCell r.2.2.fCells)]) := by
 refine enter (n := 104) Tryz.func66 rfl Tryz.ntmps66 rfl (fun w Z => ?_)
 refine wc_as (l' := [(0, rv (.pointer (some ⟨b_q, 0, none⟩)))]) (H' := [.blk b_q [rS q.fS, rI .i64 q.fAt, rv v_q_2, rB q.fGreat] 57, .row v_q_2 63 4 (List.map eTApiCell q.fCells)]) rfl rfl ?_
 unfold vRStr at h
 refine wc_sr ?_
 refine wv (r := rS ([] : Str)) (o_assign rfl) ?_
 refine wv (r := rB false) (o_assign rfl) ?_
 refine wl_x ?_
 refine wc_seq ?_
 refine wc_sr ?_
 refine wm rfl ?_
 obtain ⟨r1, e3, h2⟩ := obn_e h
 refine wcl (Hr := []) Tryz.call64 (vTake_w b_q v_q_2 q ([34] : Str) r1 e3) rfl (List.Perm.refl _) rfl ?_
 rintro _ _ ⟨v4, rfl, rfl⟩
 refine wv (r := rB (!r1.1)) (o_not rfl) ?_
 refine wl_x ?_
 refine wc_cond (b := !r1.1) rfl (fun c5 => ?_) (fun c5 => ?_)
 ·have h6 := cnd_t c5 h2
  refine wc_sr ?_
  refine wv (r := rS ([] : Str)) (o_assign rfl) ?_
  refine wv (r := rB false) (o_assign rfl) ?_
  refine wl_x ?_
  refine wc_ret ?_
  refine wk_then_ret ?_
  obtain rfl := some_e h6
  exact wk_ret (r_2 Tryz.results66 (rv_t rfl) (rv_t rfl)) (sC (sC sN)) ⟨v4, rfl, rfl⟩
 ·have h7 := cnd_f c5 h2
  refine wc_skip ?_
  refine wk_x ?_
  refine wc_sr ?_
  refine wv (r := rv (.slice none 0 0)) (o_assign rfl) ?_
  refine wl_x ?_
  refine wc_seq ?_
  refine wc_block ?_
  refine WC.nilrow (e := 5) (sz := 1) ?_
  refine wc_perm (H2 := [.blk b_q [rS r1.2.fS, rI .i64 r1.2.fAt, rv v4, rB r1.2.fGreat] 57, .row v4 63 4 (List.map eTApiCell r1.2.fCells), .row (.slice none 0 0) 5 1 (List.map eI_u8 ([] : List Int))]) ((perm_front (i := 1) rfl).trans (List.Perm.cons _ ((perm_front (i := 1) rfl).trans (List.Perm.cons _ (List.Perm.refl _))))) ?_
  obtain ⟨o426, eo427, hK428⟩ := obn_e h7
  refine wc_loop2 (S := Nat × ((List Int) × Int) × (Value)) (V := (Int) × (Unit)) 0 (fun σ => lop (fun σ => vRStr_b1 r1 σ.1 σ.2) σ.1 σ.2.1 = some o426) (fun σ => [(0, rv (.pointer (some ⟨b_q, 0, none⟩))), (2, rS ([] : Str)), (3, rB false), (4, rv σ.2.2)]) (fun σ => [.blk b_q [rS r1.2.fS, rI .i64 σ.2.1.2, rv v4, rB r1.2.fGreat] 57, .row v4 63 4 (List.map eTApiCell r1.2.fCells), .row σ.2.2 5 1 (List.map eI_u8 σ.2.1.1)]) (fun σ => σ.1) (F, (([] : List Int), r1.2.fAt), (.slice none 0 0)) eo427 (Sub.c rfl (Sub.c rfl (Sub.c rfl (Sub.c rfl Sub.nil)))) (sC (sC (sC sN))) (fun σ => vRStr_k1 r1 σ.1 = some r) (fun σ => [(2, rS ([] : Str)), (3, rB false)]) (fun σ => [.blk b_q [rS r1.2.fS, rI .i64 σ.1, rv v4, rB r1.2.fGreat] 57, .row v4 63 4 (List.map eTApiCell r1.2.fCells)]) ?_ ?_
  ·rintro ⟨n434, ⟨x366, x368⟩, v367⟩ hi432
   refine wc_as (l' := [(0, rv (.pointer (some ⟨b_q, 0, none⟩))), (2, rS ([] : Str)), (3, rB false), (4, rv v367)]) (H' := [.blk b_q [rS r1.2.fS, rI .i64 x368, rv v4, rB r1.2.fGreat] 57, .row v4 63 4 (List.map eTApiCell r1.2.fCells), .row v367 5 1 (List.map eI_u8 x366)]) rfl rfl ?_
   obtain ⟨m431, rfl, t429, h433, ht430⟩ := lop_e hi432
   replace h433 : vRStr_b1 r1 x366 x368 = some t429 := h433
   unfold vRStr_b1 at h433
   refine wc_seq ?_
   refine wc_seq ?_
   refine wc_rd [⟨[], rv (.pointer (some ⟨b_q, 0, none⟩)), 0⟩, ⟨[0], rv (.pointer (some ⟨b_q, 0, none⟩)), 0⟩, ⟨[1], rv (.pointer (some ⟨b_q, 1, none⟩)), 0⟩, ⟨[2], rI .i64 x368, 1⟩, ⟨[], rv (.pointer (some ⟨b_q, 0, none⟩)), 0⟩, ⟨[4], rv (.pointer (some ⟨b_q, 0, none⟩)), 0⟩, ⟨[5], rv (.pointer (some ⟨b_q, 0, none⟩)), 0⟩, ⟨[6], rS r1.2.fS, 1⟩, ⟨[7], rI .i64 (r1.2.fS.length : Int), 0⟩, ⟨[3, 8], rB (decide (x368 < (r1.2.fS.length : Int))), 0⟩] (rle [(11, [.blk b_q [rS r1.2.fS, rI .i64 x368, rv v4, rB r1.2.fGreat] 57, .row v4 63 4 (List.map eTApiCell r1.2.fCells), .row v367 5 1 (List.map eI_u8 x366)])]) [(0, rv (.pointer (some ⟨b_q, 0, none⟩))), (2, rS ([] : Str)), (3, rB false), (4, rv v367)] (by kernel_rfl) (by kernel_rfl) (Sub.c rfl (Sub.c rfl (Sub.c rfl (Sub.c rfl Sub.nil)))) rfl rfl ?_ ?_
   ·refine obl_q rfl (fun H => ok_v (o_move rfl)) ?_
    refine obl_q rfl (fun H => ok_v (r := rv (.pointer (some ⟨b_q, 0, none⟩))) (o_nilcheck rfl)) ?_
    refine obl_q rfl (fun H => ok_v (r := rv (.pointer (some ⟨b_q, 1, none⟩))) (o_fieldAddr Tryz.underlying57 rfl Tryz.sizeOf3 rfl rfl)) ?_
    refine obl_f rfl (ok_v (r := rI .i64 x368) (o_load (i := 0) Tryz.isAgg3 rfl rfl rfl)) ?_
    refine obl_q rfl (fun H => ok_v (o_move rfl)) ?_
    refine obl_q rfl (fun H => ok_v (r := rv (.pointer (some ⟨b_q, 0, none⟩))) (o_nilcheck rfl)) ?_
    refine obl_q rfl (fun H => ok_v (r := rv (.pointer (some ⟨b_q, 0, none⟩))) (o_fieldAddr Tryz.underlying57 rfl Tryz.sizeOf9 rfl rfl)) ?_
    refine obl_f rfl (ok_v (r := rS r1.2.fS) (o_load (i := 0) Tryz.isAgg9 rfl rfl rfl)) ?_
    refine obl_q rfl (fun H => ok_v (r := rI .i64 (r1.2.fS.length : Int)) (o_len_s Tryz.underlying9 rfl)) ?_
    refine obl_q rfl (fun H => ok_v (r := rB (decide (x368 < (r1.2.fS.length : Int)))) (o_lt rfl rfl)) ?_
    exact obl_e
   refine wk_as (l' := [(9, rv (.pointer (some ⟨b_q, 0, none⟩))), (10, rv (.pointer (some ⟨b_q, 0, none⟩))), (11, rv (.pointer (some ⟨b_q, 1, none⟩))), (12, rI .i64 x368), (13, rv (.pointer (some ⟨b_q, 0, none⟩))), (14, rv (.pointer (some ⟨b_q, 0, none⟩))), (15, rv (.pointer (some ⟨b_q, 0, none⟩))), (16, rS r1.2.fS), (17, rI .i64 (r1.2.fS.length : Int)), (18, rB (decide (x368 < (r1.2.fS.length : Int)))), (0, rv (.pointer (some ⟨b_q, 0, none⟩))), (2, rS ([] : Str)), (3, rB false), (4, rv v367)]) (H' := [.blk b_q [rS r1.2.fS, rI .i64 x368, rv v4, rB r1.2.fGreat] 57, .row v4 63 4 (List.map eTApiCell r1.2.fCells), .row v367 5 1 (List.map eI_u8 x366)]) rfl rfl ?_
   refine wk_x ?_
   refine wc_cond (b := decide (x368 < (r1.2.fS.length : Int))) rfl (fun c435 => ?_) (fun c435 => ?_)
   ·have h436 := cnd_t c435 h433
    refine wc_skip ?_
    refine wk_x ?_
    refine wc_block ?_
    refine wc_seq ?_
    obtain ⟨g437, h438⟩ := chk_e h436
    refine wc_rd [⟨[], rv (.pointer (some ⟨b_q, 0, none⟩)), 0⟩, ⟨[0], rv (.pointer (some ⟨b_q, 0, none⟩)), 0⟩, ⟨[1], rv (.pointer (some ⟨b_q, 0, none⟩)), 0⟩, ⟨[2], rS r1.2.fS, 1⟩, ⟨[], rv (.pointer (some ⟨b_q, 0, none⟩)), 0⟩, ⟨[4], rv (.pointer (some ⟨b_q, 0, none⟩)), 0⟩, ⟨[5], rv (.pointer (some ⟨b_q, 1, none⟩)), 0⟩, ⟨[6], rI .i64 x368, 1⟩, ⟨[3, 7], rI .u8 (bat r1.2.fS x368), 0⟩, ⟨[8], rI .u8 (bat r1.2.fS x368), 0⟩] (rle [(11, [.blk b_q [rS r1.2.fS, rI .i64 x368, rv v4, rB r1.2.fGreat] 57, .row v4 63 4 (List.map eTApiCell r1.2.fCells), .row v367 5 1 (List.map eI_u8 x366)])]) [(0, rv (.pointer (some ⟨b_q, 0, none⟩))), (2, rS ([] : Str)), (3, rB false), (4, rv v367), (9, rv (.pointer (some ⟨b_q, 0, none⟩))), (10, rv (.pointer (some ⟨b_q, 0, none⟩))), (11, rv (.pointer (some ⟨b_q, 1, none⟩))), (12, rI .i64 x368), (13, rv (.pointer (some ⟨b_q, 0, none⟩))), (14, rv (.pointer (some ⟨b_q, 0, none⟩))), (15, rv (.pointer (some ⟨b_q, 0, none⟩))), (16, rS r1.2.fS), (17, rI .i64 (r1.2.fS.length : Int)), (18, rB (decide (x368 < (r1.2.fS.length : Int))))] (by kernel_rfl) (by kernel_rfl) (Sub.c rfl (Sub.c rfl (Sub.c rfl (Sub.c rfl (Sub.c5 rfl rfl rfl rfl rfl (Sub.c5 rfl rfl rfl rfl rfl Sub.nil)))))) rfl rfl ?_ ?_
    ·refine obl_q rfl (fun H => ok_v (o_move rfl)) ?_
     refine obl_q rfl (fun H => ok_v (r := rv (.pointer (some ⟨b_q, 0, none⟩))) (o_nilcheck rfl)) ?_
     refine obl_q rfl (fun H => ok_v (r := rv (.pointer (some ⟨b_q, 0, none⟩))) (o_fieldAddr Tryz.underlying57 rfl Tryz.sizeOf9 rfl rfl)) ?_
     refine obl_f rfl (ok_v (r := rS r1.2.fS) (o_load (i := 0) Tryz.isAgg9 rfl rfl rfl)) ?_
     refine obl_q rfl (fun H => ok_v (o_move rfl)) ?_
     refine obl_q rfl (fun H => ok_v (r := rv (.pointer (some ⟨b_q, 0, none⟩))) (o_nilcheck rfl)) ?_
     refine obl_q rfl (fun H => ok_v (r := rv (.pointer (some ⟨b_q, 1, none⟩))) (o_fieldAddr Tryz.underlying57 rfl Tryz.sizeOf3 rfl rfl)) ?_
     refine obl_f rfl (ok_v (r := rI .i64 x368) (o_load (i := 0) Tryz.isAgg3 rfl rfl rfl)) ?_
     refine obl_q rfl (fun H => ok_v (r := rI .u8 (bat r1.2.fS x368)) (o_index_b Tryz.underlying9 rfl rfl g437)) ?_
     refine obl_q rfl (fun H => ok_v (o_assign rfl)) ?_
     exact obl_e
    refine wk_as (l' := [(19, rv (.pointer (some ⟨b_q, 0, none⟩))), (20, rv (.pointer (some ⟨b_q, 0, none⟩))), (21, rv (.pointer (some ⟨b_q, 0, none⟩))), (22, rS r1.2.fS), (23, rv (.pointer (some ⟨b_q, 0, none⟩))), (24, rv (.pointer (some ⟨b_q, 0, none⟩))), (25, rv (.pointer (some ⟨b_q, 1, none⟩))), (26, rI .i64 x368), (27, rI .u8 (bat r1.2.fS x368)), (5, rI .u8 (bat r1.2.fS x368)), (0, rv (.pointer (some ⟨b_q, 0, none⟩))), (2, rS ([] : Str)), (3, rB false), (4, rv v367), (9, rv (.pointer (some ⟨b_q, 0, none⟩))), (10, rv (.pointer (some ⟨b_q, 0, none⟩))), (11, rv (.pointer (some ⟨b_q, 1, none⟩))), (12, rI .i64 x368), (13, rv (.pointer (some ⟨b_q, 0, none⟩))), (14, rv (.pointer (some ⟨b_q, 0, none⟩))), (15, rv (.pointer (some ⟨b_q, 0, none⟩))), (16, rS r1.2.fS), (17, rI .i64 (r1.2.fS.length : Int)), (18, rB (decide (x368 < (r1.2.fS.length : Int))))]) (H' := [.blk b_q [rS r1.2.fS, rI .i64 x368, rv v4, rB r1.2.fGreat] 57, .row v4 63 4 (List.map eTApiCell r1.2.fCells), .row v367 5 1 (List.map eI_u8 x366)]) rfl rfl ?_
    refine wk_x ?_
    refine wc_sr ?_
    refine wm rfl ?_
    refine wv (r := rv (.pointer (some ⟨b_q, 0, none⟩))) (o_nilcheck rfl) ?_
    refine wv (r := rv (.pointer (some ⟨b_q, 1, none⟩))) (o_fieldAddr Tryz.underlying57 rfl Tryz.sizeOf3 rfl rfl) ?_
    refine wv (r := rI .i64 x368) (o_load (i := 0) Tryz.isAgg3 rfl rfl rfl) ?_
    obtain ⟨g439, h440⟩ := chk_e h438
    refine wv (r := rI .i64 (x368 + 1)) (o_add rfl rfl g439) ?_
    refine wv (r := rv (.pointer (some ⟨b_q, 0, none⟩))) (o_nilcheck rfl) ?_
    refine wv (r := rv (.pointer (some ⟨b_q, 1, none⟩))) (o_fieldAddr Tryz.underlying57 rfl Tryz.sizeOf3 rfl rfl) ?_
    refine u_store (i := 0) Tryz.sizeOf3 rfl rfl (one_c rfl) rfl rfl (cs' := [rS r1.2.fS, rI .i64 (x368 + 1), rv v4, rB r1.2.fGreat]) rfl (H' := [.blk b_q [rS r1.2.fS, rI .i64 (x368 + 1), rv v4, rB r1.2.fGreat] 57, .row v4 63 4 (List.map eTApiCell r1.2.fCells), .row v367 5 1 (List.map eI_u8 x366)]) rfl ?_
    refine wl_x ?_
    refine wc_seq_cut (S := (Int × Int) × (Unit)) (fun σ => vRStr_j2 x366 σ.1.1 σ.1.2 = some t429) (fun σ => [(0, rv (.pointer (some ⟨b_q, 0, none⟩))), (2, rS ([] : Str)), (3, rB false), (4, rv v367), (5, rI .u8 σ.1.1), (9, rv (.pointer (some ⟨b_q, 0, none⟩))), (10, rv (.pointer (some ⟨b_q, 0, none⟩))), (11, rv (.pointer (some ⟨b_q, 1, none⟩))), (12, rI .i64 x368), (13, rv (.pointer (some ⟨b_q, 0, none⟩))), (14, rv (.pointer (some ⟨b_q, 0, none⟩))), (15, rv (.pointer (some ⟨b_q, 0, none⟩))), (16, rS r1.2.fS), (17, rI .i64 (r1.2.fS.length : Int)), (18, rB (decide (x368 < (r1.2.fS.length : Int)))), (19, rv (.pointer (some ⟨b_q, 0, none⟩))), (20, rv (.pointer (some ⟨b_q, 0, none⟩))), (21, rv (.pointer (some ⟨b_q, 0, none⟩))), (22, rS r1.2.fS), (23, rv (.pointer (some ⟨b_q, 0, none⟩))), (24, rv (.pointer (some ⟨b_q, 0, none⟩))), (25, rv (.pointer (some ⟨b_q, 1, none⟩))), (26, rI .i64 x368), (27, rI .u8 (bat r1.2.fS x368)), (28, rv (.pointer (some ⟨b_q, 0, none⟩))), (29, rv (.pointer (some ⟨b_q, 0, none⟩))), (30, rv (.pointer (some ⟨b_q, 1, none⟩))), (31, rI .i64 x368), (32, rI .i64 (x368 + 1)), (33, rv (.pointer (some ⟨b_q, 0, none⟩))), (34, rv (.pointer (some ⟨b_q, 1, none⟩))), (35, rB (decide ((bat r1.2.fS x368) = 34))), (36, rI .u8 (bat r1.2.fS x368)), (37, rB (decide ((bat r1.2.fS x368) = 34))), (40, rB ((decide ((bat r1.2.fS x368) < 32)) || (decide (126 < (bat r1.2.fS x368))))), (41, rI .u8 (bat r1.2.fS x368)), (42, rB (decide ((bat r1.2.fS x368) < 32))), (43, rB (decide ((bat r1.2.fS x368) < 32))), (46, rB ((decide ((bat r1.2.fS x368) < 32)) || (decide (126 < (bat r1.2.fS x368))))), (47, rB (decide ((bat r1.2.fS x368) = 92))), (48, rI .u8 (bat r1.2.fS x368)), (49, rB (decide ((bat r1.2.fS x368) = 92)))]) (fun σ => [.blk b_q [rS r1.2.fS, rI .i64 σ.1.2, rv v4, rB r1.2.fGreat] 57, .row v4 63 4 (List.map eTApiCell r1.2.fCells), .row v367 5 1 (List.map eI_u8 x366)]) ?_ ?_
    ·refine wc_block ?_
     refine wc_sr ?_
     refine wm rfl ?_
     refine wv (r := rB (decide ((bat r1.2.fS x368) = 34))) (o_eq rfl rfl) ?_
     refine wa rfl ?_
     refine wl_x ?_
     refine wc_cond (b := decide ((bat r1.2.fS x368) = 34)) rfl (fun c464 => ?_) (fun c464 => ?_)
     ·have h465 := cnd_t c464 h440
      refine wc_sr ?_
      refine wm rfl ?_
      refine wv (r := rS (ofI x366)) (o_b2s (xs := x366) (i := 2) Tryz.underlying72 Tryz.underlying9 Tryz.underlying5 rfl rfl) ?_
      refine wa rfl ?_
      refine wv (r := rB true) (o_assign rfl) ?_
      refine wl_x ?_
      refine wc_ret ?_
      refine wk_in_ret ?_
      refine wk_then_ret ?_
      refine wk_in_ret ?_
      refine wk_then_ret ?_
      refine wk_cut_ret ?_
      have h466 := stp_ret h465 ht430 hK428
      refine wk_in_ret ?_
      refine wk_then_ret ?_
      obtain rfl := some_e h466
      exact wk_ret (r_2 Tryz.results66 (rv_t rfl) (rv_t rfl)) (sC (sC (sS sN))) ⟨v4, rfl, rfl⟩
     ·have h467 := cnd_f c464 h440
      refine wc_seq_mid [(0, rv (.pointer (some ⟨b_q, 0, none⟩))), (2, rS ([] : Str)), (3, rB false), (4, rv v367), (5, rI .u8 (bat r1.2.fS x368)), (9, rv (.pointer (some ⟨b_q, 0, none⟩))), (10, rv (.pointer (some ⟨b_q, 0, none⟩))), (11, rv (.pointer (some ⟨b_q, 1, none⟩))), (12, rI .i64 x368), (13, rv (.pointer (some ⟨b_q, 0, none⟩))), (14, rv (.pointer (some ⟨b_q, 0, none⟩))), (15, rv (.pointer (some ⟨b_q, 0, none⟩))), (16, rS r1.2.fS), (17, rI .i64 (r1.2.fS.length : Int)), (18, rB (decide (x368 < (r1.2.fS.length : Int)))), (19, rv (.pointer (some ⟨b_q, 0, none⟩))), (20, rv (.pointer (some ⟨b_q, 0, none⟩))), (21, rv (.pointer (some ⟨b_q, 0, none⟩))), (22, rS r1.2.fS), (23, rv (.pointer (some ⟨b_q, 0, none⟩))), (24, rv (.pointer (some ⟨b_q, 0, none⟩))), (25, rv (.pointer (some ⟨b_q, 1, none⟩))), (26, rI .i64 x368), (27, rI .u8 (bat r1.2.fS x368)), (28, rv (.pointer (some ⟨b_q, 0, none⟩))), (29, rv (.pointer (some ⟨b_q, 0, none⟩))), (30, rv (.pointer (some ⟨b_q, 1, none⟩))), (31, rI .i64 x368), (32, rI .i64 (x368 + 1)), (33, rv (.pointer (some ⟨b_q, 0, none⟩))), (34, rv (.pointer (some ⟨b_q, 1, none⟩))), (35, rB (decide ((bat r1.2.fS x368) = 34))), (36, rI .u8 (bat r1.2.fS x368)), (37, rB (decide ((bat r1.2.fS x368) = 34))), (40, rB ((decide ((bat r1.2.fS x368) < 32)) || (decide (126 < (bat r1.2.fS x368))))), (41, rI .u8 (bat r1.2.fS x368)), (42, rB (decide ((bat r1.2.fS x368) < 32))), (43, rB (decide ((bat r1.2.fS x368) < 32))), (46, rB ((decide ((bat r1.2.fS x368) < 32)) || (decide (126 < (bat r1.2.fS x368)))))] [.blk b_q [rS r1.2.fS, rI .i64 (x368 + 1), rv v4, rB r1.2.fGreat] 57, .row v4 63 4 (List.map eTApiCell r1.2.fCells), .row v367 5 1 (List.map eI_u8 x366)] ?_ ?_
      ·refine wc_region ?_
       refine wm rfl ?_
       refine wv (r := rB (decide ((bat r1.2.fS x368) < 32))) (o_lt rfl rfl) ?_
       refine wm rfl ?_
       refine bsplit (decide ((bat r1.2.fS x368) < 32)) (fun c468 => ?_) (fun c468 => ?_)
       ·refine wl_off rfl rfl c468 rfl ?_
        refine wl_off rfl rfl c468 rfl ?_
        refine wv (r := rB true) (o_pick_t (b := decide ((bat r1.2.fS x368) < 32)) rfl c468 rfl) ?_
        refine wa rfl ?_
        refine wl_nil ?_
        exact wk_then (wk_mid (Sub.c rfl (Sub.c rfl (Sub.c rfl (Sub.c rfl (Sub.c5 rfl rfl rfl rfl rfl (Sub.c5 rfl rfl rfl rfl rfl (Sub.c5 rfl rfl rfl rfl rfl (Sub.c5 rfl rfl rfl rfl rfl (Sub.c5 rfl rfl rfl rfl rfl (Sub.c5 rfl rfl rfl rfl rfl (Sub.c (by first | rfl | (simp only [c468]; rfl) | simp [c468]) (Sub.c rfl (Sub.c rfl (Sub.c rfl (Sub.c (by first | rfl | (simp only [c468]; rfl) | simp [c468]) Sub.nil))))))))))))))) (sC (sC (sC sN))))
       ·refine wl_on rfl rfl c468 ?_
        refine wm rfl ?_
        refine wl_on rfl rfl c468 ?_
        refine wv (r := rB (decide (126 < (bat r1.2.fS x368)))) (o_gt rfl rfl) ?_
        refine wpf rfl c468 rfl ?_
        refine wa rfl ?_
        refine wl_nil ?_
        exact wk_then (wk_mid (Sub.c rfl (Sub.c rfl (Sub.c rfl (Sub.c rfl (Sub.c5 rfl rfl rfl rfl rfl (Sub.c5 rfl rfl rfl rfl rfl (Sub.c5 rfl rfl rfl rfl rfl (Sub.c5 rfl rfl rfl rfl rfl (Sub.c5 rfl rfl rfl rfl rfl (Sub.c5 rfl rfl rfl rfl rfl (Sub.c (by first | rfl | (simp only [c468]; rfl) | simp [c468]) (Sub.c rfl (Sub.c rfl (Sub.c rfl (Sub.c (by first | rfl | (simp only [c468]; rfl) | simp [c468]) Sub.nil))))))))))))))) (sC (sC (sC sN))))
      refine wc_cond (b := ((decide ((bat r1.2.fS x368) < 32)) || (decide (126 < (bat r1.2.fS x368))))) rfl (fun c469 => ?_) (fun c469 => ?_)
      ·have h470 := cnd_t c469 h467
       refine wc_sr ?_
       refine wv (r := rS ([] : Str)) (o_assign rfl) ?_
       refine wv (r := rB false) (o_assign rfl) ?_
       refine wl_x ?_
       refine wc_ret ?_
       refine wk_in_ret ?_
       refine wk_then_ret ?_
       refine wk_in_ret ?_
       refine wk_then_ret ?_
       refine wk_cut_ret ?_
       have h471 := stp_ret h470 ht430 hK428
       refine wk_in_ret ?_
       refine wk_then_ret ?_
       obtain rfl := some_e h471
       exact wk_ret (r_2 Tryz.results66 (rv_t rfl) (rv_t rfl)) (sC (sC (sS sN))) ⟨v4, rfl, rfl⟩
      ·have h472 := cnd_f c469 h467
       refine wc_sr ?_
       refine wm rfl ?_
       refine wv (r := rB (decide ((bat r1.2.fS x368) = 92))) (o_eq rfl rfl) ?_
       refine wa rfl ?_
       refine wl_x ?_
       refine wc_cond (b := decide ((bat r1.2.fS x368) = 92)) rfl (fun c473 => ?_) (fun c473 => ?_)
       ·have h474 := cnd_t c473 h472
        refine wc_seq ?_
        obtain ⟨g475, h476⟩ := chk_e h474
        refine wc_seq_mid [(0, rv (.pointer (some ⟨b_q, 0, none⟩))), (2, rS ([] : Str)), (3, rB false), (4, rv v367), (5, rI .u8 (bat r1.2.fS x368)), (9, rv (.pointer (some ⟨b_q, 0, none⟩))), (10, rv (.pointer (some ⟨b_q, 0, none⟩))), (11, rv (.pointer (some ⟨b_q, 1, none⟩))), (12, rI .i64 x368), (13, rv (.pointer (some ⟨b_q, 0, none⟩))), (14, rv (.pointer (some ⟨b_q, 0, none⟩))), (15, rv (.pointer (some ⟨b_q, 0, none⟩))), (16, rS r1.2.fS), (17, rI .i64 (r1.2.fS.length : Int)), (18, rB (decide (x368 < (r1.2.fS.length : Int)))), (19, rv (.pointer (some ⟨b_q, 0, none⟩))), (20, rv (.pointer (some ⟨b_q, 0, none⟩))), (21, rv (.pointer (some ⟨b_q, 0, none⟩))), (22, rS r1.2.fS), (23, rv (.pointer (some ⟨b_q, 0, none⟩))), (24, rv (.pointer (some ⟨b_q, 0, none⟩))), (25, rv (.pointer (some ⟨b_q, 1, none⟩))), (26, rI .i64 x368), (27, rI .u8 (bat r1.2.fS x368)), (28, rv (.pointer (some ⟨b_q, 0, none⟩))), (29, rv (.pointer (some ⟨b_q, 0, none⟩))), (30, rv (.pointer (some ⟨b_q, 1, none⟩))), (31, rI .i64 x368), (32, rI .i64 (x368 + 1)), (33, rv (.pointer (some ⟨b_q, 0, none⟩))), (34, rv (.pointer (some ⟨b_q, 1, none⟩))), (35, rB (decide ((bat r1.2.fS x368) = 34))), (36, rI .u8 (bat r1.2.fS x368)), (37, rB (decide ((bat r1.2.fS x368) = 34))), (40, rB ((decide ((bat r1.2.fS x368) < 32)) || (decide (126 < (bat r1.2.fS x368))))), (41, rI .u8 (bat r1.2.fS x368)), (42, rB (decide ((bat r1.2.fS x368) < 32))), (43, rB (decide ((bat r1.2.fS x368) < 32))), (46, rB ((decide ((bat r1.2.fS x368) < 32)) || (decide (126 < (bat r1.2.fS x368))))), (47, rB (decide ((bat r1.2.fS x368) = 92))), (48, rI .u8 (bat r1.2.fS x368)), (49, rB (decide ((bat r1.2.fS x368) = 92))), (50, rv (.pointer (some ⟨b_q, 0, none⟩))), (51, rv (.pointer (some ⟨b_q, 0, none⟩))), (52, rv (.pointer (some ⟨b_q, 1, none⟩))), (53, rI .i64 (x368 + 1)), (54, rv (.pointer (some ⟨b_q, 0, none⟩))), (55, rv (.pointer (some ⟨b_q, 0, none⟩))), (56, rv (.pointer (some ⟨b_q, 0, none⟩))), (57, rS r1.2.fS), (58, rI .i64 (r1.2.fS.length : Int)), (59, rB (decide ((r1.2.fS.length : Int) ≤ (x368 + 1)))), (60, rB (decide ((r1.2.fS.length : Int) ≤ (x368 + 1)))), (83, rB ((decide ((r1.2.fS.length : Int) ≤ (x368 + 1))) || ((!decide ((bat r1.2.fS (x368 + 1)) = 34)) && (!decide ((bat r1.2.fS (x368 + 1)) = 92)))))] [.blk b_q [rS r1.2.fS, rI .i64 (x368 + 1), rv v4, rB r1.2.fGreat] 57, .row v4 63 4 (List.map eTApiCell r1.2.fCells), .row v367 5 1 (List.map eI_u8 x366)] ?_ ?_
        ·refine bsplit (decide ((r1.2.fS.length : Int) ≤ (x368 + 1))) (fun c477 => ?_) (fun c477 => ?_)
         ·refine wc_rd [⟨[], rv (.pointer (some ⟨b_q, 0, none⟩)), 0⟩, ⟨[0], rv (.pointer (some ⟨b_q, 0, none⟩)), 0⟩, ⟨[1], rv (.pointer (some ⟨b_q, 1, none⟩)), 0⟩, ⟨[2], rI .i64 (x368 + 1), 1⟩, ⟨[], rv (.pointer (some ⟨b_q, 0, none⟩)), 0⟩, ⟨[4], rv (.pointer (some ⟨b_q, 0, none⟩)), 0⟩, ⟨[5], rv (.pointer (some ⟨b_q, 0, none⟩)), 0⟩, ⟨[6], rS r1.2.fS, 1⟩, ⟨[7], rI .i64 (r1.2.fS.length : Int), 0⟩, ⟨[3, 8], rB (decide ((r1.2.fS.length : Int) ≤ (x368 + 1))), 0⟩, ⟨[9], rB (decide ((r1.2.fS.length : Int) ≤ (x368 + 1))), 0⟩, ⟨[10], rv undef, 0⟩, ⟨[11, 10], rv undef, 0⟩, ⟨[12, 10], rv undef, 0⟩, ⟨[13, 10], rv undef, 0⟩, ⟨[10], rv undef, 0⟩, ⟨[15, 10], rv undef, 0⟩, ⟨[16, 10], rv undef, 0⟩, ⟨[17, 10], rv undef, 0⟩, ⟨[14, 18, 10], rv undef, 0⟩, ⟨[19, 10], rv undef, 0⟩, ⟨[20, 10], rv undef, 0⟩, ⟨[21], rv undef, 0⟩, ⟨[22, 21], rv undef, 0⟩, ⟨[23, 21], rv undef, 0⟩, ⟨[24, 21], rv undef, 0⟩, ⟨[21], rv undef, 0⟩, ⟨[26, 21], rv undef, 0⟩, ⟨[27, 21], rv undef, 0⟩, ⟨[28, 21], rv undef, 0⟩, ⟨[25, 29, 21], rv undef, 0⟩, ⟨[30, 21], rv undef, 0⟩, ⟨[21, 31, 10], rv undef, 0⟩, ⟨[10, 32], rB true, 0⟩] (rle [(35, [.blk b_q [rS r1.2.fS, rI .i64 (x368 + 1), rv v4, rB r1.2.fGreat] 57, .row v4 63 4 (List.map eTApiCell r1.2.fCells), .row v367 5 1 (List.map eI_u8 x366)])]) [(0, rv (.pointer (some ⟨b_q, 0, none⟩))), (2, rS ([] : Str)), (3, rB false), (4, rv v367), (5, rI .u8 (bat r1.2.fS x368)), (9, rv (.pointer (some ⟨b_q, 0, none⟩))), (10, rv (.pointer (some ⟨b_q, 0, none⟩))), (11, rv (.pointer (some ⟨b_q, 1, none⟩))), (12, rI .i64 x368), (13, rv (.pointer (some ⟨b_q, 0, none⟩))), (14, rv (.pointer (some ⟨b_q, 0, none⟩))), (15, rv (.pointer (some ⟨b_q, 0, none⟩))), (16, rS r1.2.fS), (17, rI .i64 (r1.2.fS.length : Int)), (18, rB (decide (x368 < (r1.2.fS.length : Int)))), (19, rv (.pointer (some ⟨b_q, 0, none⟩))), (20, rv (.pointer (some ⟨b_q, 0, none⟩))), (21, rv (.pointer (some ⟨b_q, 0, none⟩))), (22, rS r1.2.fS), (23, rv (.pointer (some ⟨b_q, 0, none⟩))), (24, rv (.pointer (some ⟨b_q, 0, none⟩))), (25, rv (.pointer (some ⟨b_q, 1, none⟩))), (26, rI .i64 x368), (27, rI .u8 (bat r1.2.fS x368)), (28, rv (.pointer (some ⟨b_q, 0, none⟩))), (29, rv (.pointer (some ⟨b_q, 0, none⟩))), (30, rv (.pointer (some ⟨b_q, 1, none⟩))), (31, rI .i64 x368), (32, rI .i64 (x368 + 1)), (33, rv (.pointer (some ⟨b_q, 0, none⟩))), (34, rv (.pointer (some ⟨b_q, 1, none⟩))), (35, rB (decide ((bat r1.2.fS x368) = 34))), (36, rI .u8 (bat r1.2.fS x368)), (37, rB (decide ((bat r1.2.fS x368) = 34))), (40, rB ((decide ((bat r1.2.fS x368) < 32)) || (decide (126 < (bat r1.2.fS x368))))), (41, rI .u8 (bat r1.2.fS x368)), (42, rB (decide ((bat r1.2.fS x368) < 32))), (43, rB (decide ((bat r1.2.fS x368) < 32))), (46, rB ((decide ((bat r1.2.fS x368) < 32)) || (decide (126 < (bat r1.2.fS x368))))), (47, rB (decide ((bat r1.2.fS x368) = 92))), (48, rI .u8 (bat r1.2.fS x368)), (49, rB (decide ((bat r1.2.fS x368) = 92)))] (by kernel_rfl) (by kernel_rfl) (Sub.c rfl (Sub.c rfl (Sub.c5 rfl rfl rfl rfl rfl (Sub.c5 rfl rfl rfl rfl rfl (Sub.c5 rfl rfl rfl rfl rfl (Sub.c5 rfl rfl rfl rfl rfl (Sub.c5 rfl rfl rfl rfl rfl (Sub.c5 rfl rfl rfl rfl rfl (Sub.c5 rfl rfl rfl rfl rfl (Sub.c5 rfl rfl rfl rfl rfl Sub.nil)))))))))) rfl rfl ?_ ?_
          ·refine obl_q rfl (fun H => ok_v (o_move rfl)) ?_
           refine obl_q rfl (fun H => ok_v (r := rv (.pointer (some ⟨b_q, 0, none⟩))) (o_nilcheck rfl)) ?_
           refine obl_q rfl (fun H => ok_v (r := rv (.pointer (some ⟨b_q, 1, none⟩))) (o_fieldAddr Tryz.underlying57 rfl Tryz.sizeOf3 rfl rfl)) ?_
           refine obl_f rfl (ok_v (r := rI .i64 (x368 + 1)) (o_load (i := 0) Tryz.isAgg3 rfl rfl rfl)) ?_
           refine obl_q rfl (fun H => ok_v (o_move rfl)) ?_
           refine obl_q rfl (fun H => ok_v (r := rv (.pointer (some ⟨b_q, 0, none⟩))) (o_nilcheck rfl)) ?_
           refine obl_q rfl (fun H => ok_v (r := rv (.pointer (some ⟨b_q, 0, none⟩))) (o_fieldAddr Tryz.underlying57 rfl Tryz.sizeOf9 rfl rfl)) ?_
           refine obl_f rfl (ok_v (r := rS r1.2.fS) (o_load (i := 0) Tryz.isAgg9 rfl rfl rfl)) ?_
           refine obl_q rfl (fun H => ok_v (r := rI .i64 (r1.2.fS.length : Int)) (o_len_s Tryz.underlying9 rfl)) ?_
           refine obl_q rfl (fun H => ok_v (r := rB (decide ((r1.2.fS.length : Int) ≤ (x368 + 1)))) (o_ge rfl rfl)) ?_
           refine obl_q rfl (fun H => ok_v (o_move rfl)) ?_
           refine obl_q rfl (fun H => ok_off (b := decide ((r1.2.fS.length : Int) ≤ (x368 + 1))) rfl rfl c477) ?_
           refine obl_q rfl (fun H => ok_off (b := decide ((r1.2.fS.length : Int) ≤ (x368 + 1))) rfl rfl c477) ?_
           refine obl_q rfl (fun H => ok_off (b := decide ((r1.2.fS.length : Int) ≤ (x368 + 1))) rfl rfl c477) ?_
           refine obl_q rfl (fun H => ok_off (b := decide ((r1.2.fS.length : Int) ≤ (x368 + 1))) rfl rfl c477) ?_
           refine obl_q rfl (fun H => ok_off (b := decide ((r1.2.fS.length : Int) ≤ (x368 + 1))) rfl rfl c477) ?_
           refine obl_q rfl (fun H => ok_off (b := decide ((r1.2.fS.length : Int) ≤ (x368 + 1))) rfl rfl c477) ?_
           refine obl_q rfl (fun H => ok_off (b := decide ((r1.2.fS.length : Int) ≤ (x368 + 1))) rfl rfl c477) ?_
           refine obl_q rfl (fun H => ok_off (b := decide ((r1.2.fS.length : Int) ≤ (x368 + 1))) rfl rfl c477) ?_
           refine obl_q rfl (fun H => ok_off (b := decide ((r1.2.fS.length : Int) ≤ (x368 + 1))) rfl rfl c477) ?_
           refine obl_q rfl (fun H => ok_off (b := decide ((r1.2.fS.length : Int) ≤ (x368 + 1))) rfl rfl c477) ?_
           refine obl_q rfl (fun H => ok_off (b := decide ((r1.2.fS.length : Int) ≤ (x368 + 1))) rfl rfl c477) ?_
           refine obl_q rfl (fun H => ok_off_u rfl rfl) ?_
           refine obl_q rfl (fun H => ok_off_u rfl rfl) ?_
           refine obl_q rfl (fun H => ok_off_u rfl rfl) ?_
           refine obl_q rfl (fun H => ok_off_u rfl rfl) ?_
           refine obl_q rfl (fun H => ok_off_u rfl rfl) ?_
           refine obl_q rfl (fun H => ok_off_u rfl rfl) ?_
           refine obl_q rfl (fun H => ok_off_u rfl rfl) ?_
           refine obl_q rfl (fun H => ok_off_u rfl rfl) ?_
           refine obl_q rfl (fun H => ok_off_u rfl rfl) ?_
           refine obl_q rfl (fun H => ok_off_u rfl rfl) ?_
           refine obl_q rfl (fun H => ok_off (b := decide ((r1.2.fS.length : Int) ≤ (x368 + 1))) rfl rfl c477) ?_
           refine obl_q rfl (fun H => ok_v (r := rB true) (o_pick_t (b := decide ((r1.2.fS.length : Int) ≤ (x368 + 1))) rfl c477 rfl)) ?_
           exact obl_e
          refine wk_as (l' := [(50, rv (.pointer (some ⟨b_q, 0, none⟩))), (51, rv (.pointer (some ⟨b_q, 0, none⟩))), (52, rv (.pointer (some ⟨b_q, 1, none⟩))), (53, rI .i64 (x368 + 1)), (54, rv (.pointer (some ⟨b_q, 0, none⟩))), (55, rv (.pointer (some ⟨b_q, 0, none⟩))), (56, rv (.pointer (some ⟨b_q, 0, none⟩))), (57, rS r1.2.fS), (58, rI .i64 (r1.2.fS.length : Int)), (59, rB (decide ((r1.2.fS.length : Int) ≤ (x368 + 1)))), (60, rB (decide ((r1.2.fS.length : Int) ≤ (x368 + 1)))), (61, rv undef), (62, rv undef), (63, rv undef), (64, rv undef), (65, rv undef), (66, rv undef), (67, rv undef), (68, rv undef), (69, rv undef), (70, rv undef), (71, rv undef), (72, rv undef), (73, rv undef), (74, rv undef), (75, rv undef), (76, rv undef), (77, rv undef), (78, rv undef), (79, rv undef), (80, rv undef), (81, rv undef), (82, rv undef), (83, rB true), (0, rv (.pointer (some ⟨b_q, 0, none⟩))), (2, rS ([] : Str)), (3, rB false), (4, rv v367), (5, rI .u8 (bat r1.2.fS x368)), (9, rv (.pointer (some ⟨b_q, 0, none⟩))), (10, rv (.pointer (some ⟨b_q, 0, none⟩))), (11, rv (.pointer (some ⟨b_q, 1, none⟩))), (12, rI .i64 x368), (13, rv (.pointer (some ⟨b_q, 0, none⟩))), (14, rv (.pointer (some ⟨b_q, 0, none⟩))), (15, rv (.pointer (some ⟨b_q, 0, none⟩))), (16, rS r1.2.fS), (17, rI .i64 (r1.2.fS.length : Int)), (18, rB (decide (x368 < (r1.2.fS.length : Int)))), (19, rv (.pointer (some ⟨b_q, 0, none⟩))), (20, rv (.pointer (some ⟨b_q, 0, none⟩))), (21, rv (.pointer (some ⟨b_q, 0, none⟩))), (22, rS r1.2.fS), (23, rv (.pointer (some ⟨b_q, 0, none⟩))), (24, rv (.pointer (some ⟨b_q, 0, none⟩))), (25, rv (.pointer (some ⟨b_q, 1, none⟩))), (26, rI .i64 x368), (27, rI .u8 (bat r1.2.fS x368)), (28, rv (.pointer (some ⟨b_q, 0, none⟩))), (29, rv (.pointer (some ⟨b_q, 0, none⟩))), (30, rv (.pointer (some ⟨b_q, 1, none⟩))), (31, rI .i64 x368), (32, rI .i64 (x368 + 1)), (33, rv (.pointer (some ⟨b_q, 0, none⟩))), (34, rv (.pointer (some ⟨b_q, 1, none⟩))), (35, rB (decide ((bat r1.2.fS x368) = 34))), (36, rI .u8 (bat r1.2.fS x368)), (37, rB (decide ((bat r1.2.fS x368) = 34))), (40, rB ((decide ((bat r1.2.fS x368) < 32)) || (decide (126 < (bat r1.2.fS x368))))), (41, rI .u8 (bat r1.2.fS x368)), (42, rB (decide ((bat r1.2.fS x368) < 32))), (43, rB (decide ((bat r1.2.fS x368) < 32))), (46, rB ((decide ((bat r1.2.fS x368) < 32)) || (decide (126 < (bat r1.2.fS x368))))), (47, rB (decide ((bat r1.2.fS x368) = 92))), (48, rI .u8 (bat r1.2.fS x368)), (49, rB (decide ((bat r1.2.fS x368) = 92)))]) (H' := [.blk b_q [rS r1.2.fS, rI .i64 (x368 + 1), rv v4, rB r1.2.fGreat] 57, .row v4 63 4 (List.map eTApiCell r1.2.fCells), .row v367 5 1 (List.map eI_u8 x366)]) rfl rfl ?_
          exact wk_then (wk_mid (Sub.c rfl (Sub.c rfl (Sub.c rfl (Sub.c5 rfl rfl rfl rfl rfl (Sub.c5 rfl rfl rfl rfl rfl (Sub.c5 rfl rfl rfl rfl rfl (Sub.c5 rfl rfl rfl rfl rfl (Sub.c5 rfl rfl rfl rfl rfl (Sub.c5 rfl rfl rfl rfl rfl (Sub.c5 rfl rfl rfl rfl rfl (Sub.c5 rfl rfl rfl rfl rfl (Sub.c5 rfl rfl rfl rfl rfl (Sub.c5 rfl rfl rfl rfl rfl (Sub.c (by first | rfl | (simp only [c477]; rfl) | simp [c477]) Sub.nil)))))))))))))) (sC (sC (sC sN))))
         ·refine bsplit (!decide ((bat r1.2.fS (x368 + 1)) = 34)) (fun c478 => ?_) (fun c478 => ?_)
          ·refine wc_rd [⟨[], rv (.pointer (some ⟨b_q, 0, none⟩)), 0⟩, ⟨[0], rv (.pointer (some ⟨b_q, 0, none⟩)), 0⟩, ⟨[1], rv (.pointer (some ⟨b_q, 1, none⟩)), 0⟩, ⟨[2], rI .i64 (x368 + 1), 1⟩, ⟨[], rv (.pointer (some ⟨b_q, 0, none⟩)), 0⟩, ⟨[4], rv (.pointer (some ⟨b_q, 0, none⟩)), 0⟩, ⟨[5], rv (.pointer (some ⟨b_q, 0, none⟩)), 0⟩, ⟨[6], rS r1.2.fS, 1⟩, ⟨[7], rI .i64 (r1.2.fS.length : Int), 0⟩, ⟨[3, 8], rB (decide ((r1.2.fS.length : Int) ≤ (x368 + 1))), 0⟩, ⟨[9], rB (decide ((r1.2.fS.length : Int) ≤ (x368 + 1))), 0⟩, ⟨[10], rv (.pointer (some ⟨b_q, 0, none⟩)), 0⟩, ⟨[11, 10], rv (.pointer (some ⟨b_q, 0, none⟩)), 0⟩, ⟨[12, 10], rv (.pointer (some ⟨b_q, 0, none⟩)), 0⟩, ⟨[13, 10], rS r1.2.fS, 1⟩, ⟨[10], rv (.pointer (some ⟨b_q, 0, none⟩)), 0⟩, ⟨[15, 10], rv (.pointer (some ⟨b_q, 0, none⟩)), 0⟩, ⟨[16, 10], rv (.pointer (some ⟨b_q, 1, none⟩)), 0⟩, ⟨[17, 10], rI .i64 (x368 + 1), 1⟩, ⟨[14, 18, 10], rI .u8 (bat r1.2.fS (x368 + 1)), 0⟩, ⟨[19, 10], rB (!decide ((bat r1.2.fS (x368 + 1)) = 34)), 0⟩, ⟨[20, 10], rB (!decide ((bat r1.2.fS (x368 + 1)) = 34)), 0⟩, ⟨[21], rv (.pointer (some ⟨b_q, 0, none⟩)), 0⟩, ⟨[22, 21], rv (.pointer (some ⟨b_q, 0, none⟩)), 0⟩, ⟨[23, 21], rv (.pointer (some ⟨b_q, 0, none⟩)), 0⟩, ⟨[24, 21], rS r1.2.fS, 1⟩, ⟨[21], rv (.pointer (some ⟨b_q, 0, none⟩)), 0⟩, ⟨[26, 21], rv (.pointer (some ⟨b_q, 0, none⟩)), 0⟩, ⟨[27, 21], rv (.pointer (some ⟨b_q, 1, none⟩)), 0⟩, ⟨[28, 21], rI .i64 (x368 + 1), 1⟩, ⟨[25, 29, 21], rI .u8 (bat r1.2.fS (x368 + 1)), 0⟩, ⟨[30, 21], rB (!decide ((bat r1.2.fS (x368 + 1)) = 92)), 0⟩, ⟨[21, 31, 10], rB (!decide ((bat r1.2.fS (x368 + 1)) = 92)), 0⟩, ⟨[10, 32], rB (!decide ((bat r1.2.fS (x368 + 1)) = 92)), 0⟩] (rle [(35, [.blk b_q [rS r1.2.fS, rI .i64 (x368 + 1), rv v4, rB r1.2.fGreat] 57, .row v4 63 4 (List.map eTApiCell r1.2.fCells), .row v367 5 1 (List.map eI_u8 x366)])]) [(0, rv (.pointer (some ⟨b_q, 0, none⟩))), (2, rS ([] : Str)), (3, rB false), (4, rv v367), (5, rI .u8 (bat r1.2.fS x368)), (9, rv (.pointer (some ⟨b_q, 0, none⟩))), (10, rv (.pointer (some ⟨b_q, 0, none⟩))), (11, rv (.pointer (some ⟨b_q, 1, none⟩))), (12, rI .i64 x368), (13, rv (.pointer (some ⟨b_q, 0, none⟩))), (14, rv (.pointer (some ⟨b_q, 0, none⟩))), (15, rv (.pointer (some ⟨b_q, 0, none⟩))), (16, rS r1.2.fS), (17, rI .i64 (r1.2.fS.length : Int)), (18, rB (decide (x368 < (r1.2.fS.length : Int)))), (19, rv (.pointer (some ⟨b_q, 0, none⟩))), (20, rv (.pointer (some ⟨b_q, 0, none⟩))), (21, rv (.pointer (some ⟨b_q, 0, none⟩))), (22, rS r1.2.fS), (23, rv (.pointer (some ⟨b_q, 0, none⟩))), (24, rv (.pointer (some ⟨b_q, 0, none⟩))), (25, rv (.pointer (some ⟨b_q, 1, none⟩))), (26, rI .i64 x368), (27, rI .u8 (bat r1.2.fS x368)), (28, rv (.pointer (some ⟨b_q, 0, none⟩))), (29, rv (.pointer (some ⟨b_q, 0, none⟩))), (30, rv (.pointer (some ⟨b_q, 1, none⟩))), (31, rI .i64 x368), (32, rI .i64 (x368 + 1)), (33, rv (.pointer (some ⟨b_q, 0, none⟩))), (34, rv (.pointer (some ⟨b_q, 1, none⟩))), (35, rB (decide ((bat r1.2.fS x368) = 34))), (36, rI .u8 (bat r1.2.fS x368)), (37, rB (decide ((bat r1.2.fS x368) = 34))), (40, rB ((decide ((bat r1.2.fS x368) < 32)) || (decide (126 < (bat r1.2.fS x368))))), (41, rI .u8 (bat r1.2.fS x368)), (42, rB (decide ((bat r1.2.fS x368) < 32))), (43, rB (decide ((bat r1.2.fS x368) < 32))), (46, rB ((decide ((bat r1.2.fS x368) < 32)) || (decide (126 < (bat r1.2.fS x368))))), (47, rB (decide ((bat r1.2.fS x368) = 92))), (48, rI .u8 (bat r1.2.fS x368)), (49, rB (decide ((bat r1.2.fS x368) = 92)))] (by kernel_rfl) (by kernel_rfl) (Sub.c rfl (Sub.c rfl (Sub.c5 rfl rfl rfl rfl rfl (Sub.c5 rfl rfl rfl rfl rfl (Sub.c5 rfl rfl rfl rfl rfl (Sub.c5 rfl rfl rfl rfl rfl (Sub.c5 rfl rfl rfl rfl rfl (Sub.c5 rfl rfl rfl rfl rfl (Sub.c5 rfl rfl rfl rfl rfl (Sub.c5 rfl rfl rfl rfl rfl Sub.nil)))))))))) rfl rfl ?_ ?_
           ·refine obl_q rfl (fun H => ok_v (o_move rfl)) ?_
            refine obl_q rfl (fun H => ok_v (r := rv (.pointer (some ⟨b_q, 0, none⟩))) (o_nilcheck rfl)) ?_
            refine obl_q rfl (fun H => ok_v (r := rv (.pointer (some ⟨b_q, 1, none⟩))) (o_fieldAddr Tryz.underlying57 rfl Tryz.sizeOf3 rfl rfl)) ?_
            refine obl_f rfl (ok_v (r := rI .i64 (x368 + 1)) (o_load (i := 0) Tryz.isAgg3 rfl rfl rfl)) ?_
            refine obl_q rfl (fun H => ok_v (o_move rfl)) ?_
            refine obl_q rfl (fun H => ok_v (r := rv (.pointer (some ⟨b_q, 0, none⟩))) (o_nilcheck rfl)) ?_
            refine obl_q rfl (fun H => ok_v (r := rv (.pointer (some ⟨b_q, 0, none⟩))) (o_fieldAddr Tryz.underlying57 rfl Tryz.sizeOf9 rfl rfl)) ?_
            refine obl_f rfl (ok_v (r := rS r1.2.fS) (o_load (i := 0) Tryz.isAgg9 rfl rfl rfl)) ?_
            refine obl_q rfl (fun H => ok_v (r := rI .i64 (r1.2.fS.length : Int)) (o_len_s Tryz.underlying9 rfl)) ?_
            refine obl_q rfl (fun H => ok_v (r := rB (decide ((r1.2.fS.length : Int) ≤ (x368 + 1)))) (o_ge rfl rfl)) ?_
            refine obl_q rfl (fun H => ok_v (o_move rfl)) ?_
            refine obl_q rfl (fun H => ok_on (b := decide ((r1.2.fS.length : Int) ≤ (x368 + 1))) rfl rfl c477 (ok_v (o_move rfl))) ?_
            refine obl_q rfl (fun H => ok_on (b := decide ((r1.2.fS.length : Int) ≤ (x368 + 1))) rfl rfl c477 (ok_v (r := rv (.pointer (some ⟨b_q, 0, none⟩))) (o_nilcheck rfl))) ?_
            refine obl_q rfl (fun H => ok_on (b := decide ((r1.2.fS.length : Int) ≤ (x368 + 1))) rfl rfl c477 (ok_v (r := rv (.pointer (some ⟨b_q, 0, none⟩))) (o_fieldAddr Tryz.underlying57 rfl Tryz.sizeOf9 rfl rfl))) ?_
            refine obl_f rfl (ok_on (b := decide ((r1.2.fS.length : Int) ≤ (x368 + 1))) rfl rfl c477 (ok_v (r := rS r1.2.fS) (o_load (i := 0) Tryz.isAgg9 rfl rfl rfl))) ?_
            refine obl_q rfl (fun H => ok_on (b := decide ((r1.2.fS.length : Int) ≤ (x368 + 1))) rfl rfl c477 (ok_v (o_move rfl))) ?_
            refine obl_q rfl (fun H => ok_on (b := decide ((r1.2.fS.length : Int) ≤ (x368 + 1))) rfl rfl c477 (ok_v (r := rv (.pointer (some ⟨b_q, 0, none⟩))) (o_nilcheck rfl))) ?_
            refine obl_q rfl (fun H => ok_on (b := decide ((r1.2.fS.length : Int) ≤ (x368 + 1))) rfl rfl c477 (ok_v (r := rv (.pointer (some ⟨b_q, 1, none⟩))) (o_fieldAddr Tryz.underlying57 rfl Tryz.sizeOf3 rfl rfl))) ?_
            refine obl_f rfl (ok_on (b := decide ((r1.2.fS.length : Int) ≤ (x368 + 1))) rfl rfl c477 (ok_v (r := rI .i64 (x368 + 1)) (o_load (i := 0) Tryz.isAgg3 rfl rfl rfl))) ?_
            refine obl_q rfl (fun H => ok_on (b := decide ((r1.2.fS.length : Int) ≤ (x368 + 1))) rfl rfl c477 (ok_v (r := rI .u8 (bat r1.2.fS (x368 + 1))) (o_index_b Tryz.underlying9 rfl rfl (imp_f g475 c477)))) ?_
            refine obl_q rfl (fun H => ok_on (b := decide ((r1.2.fS.length : Int) ≤ (x368 + 1))) rfl rfl c477 (ok_v (r := rB (!decide ((bat r1.2.fS (x368 + 1)) = 34))) (o_ne rfl rfl))) ?_
            refine obl_q rfl (fun H => ok_on (b := decide ((r1.2.fS.length : Int) ≤ (x368 + 1))) rfl rfl c477 (ok_v (o_move rfl))) ?_
            refine obl_q rfl (fun H => ok_on (b := !decide ((bat r1.2.fS (x368 + 1)) = 34)) rfl rfl c478 (ok_v (o_move rfl))) ?_
            refine obl_q rfl (fun H => ok_on (b := !decide ((bat r1.2.fS (x368 + 1)) = 34)) rfl rfl c478 (ok_v (r := rv (.pointer (some ⟨b_q, 0, none⟩))) (o_nilcheck rfl))) ?_
            refine obl_q rfl (fun H => ok_on (b := !decide ((bat r1.2.fS (x368 + 1)) = 34)) rfl rfl c478 (ok_v (r := rv (.pointer (some ⟨b_q, 0, none⟩))) (o_fieldAddr Tryz.underlying57 rfl Tryz.sizeOf9 rfl rfl))) ?_
            refine obl_f rfl (ok_on (b := !decide ((bat r1.2.fS (x368 + 1)) = 34)) rfl rfl c478 (ok_v (r := rS r1.2.fS) (o_load (i := 0) Tryz.isAgg9 rfl rfl rfl))) ?_
            refine obl_q rfl (fun H => ok_on (b := !decide ((bat r1.2.fS (x368 + 1)) = 34)) rfl rfl c478 (ok_v (o_move rfl))) ?_
            refine obl_q rfl (fun H => ok_on (b := !decide ((bat r1.2.fS (x368 + 1)) = 34)) rfl rfl c478 (ok_v (r := rv (.pointer (some ⟨b_q, 0, none⟩))) (o_nilcheck rfl))) ?_
            refine obl_q rfl (fun H => ok_on (b := !decide ((bat r1.2.fS (x368 + 1)) = 34)) rfl rfl c478 (ok_v (r := rv (.pointer (some ⟨b_q, 1, none⟩))) (o_fieldAddr Tryz.underlying57 rfl Tryz.sizeOf3 rfl rfl))) ?_
            refine obl_f rfl (ok_on (b := !decide ((bat r1.2.fS (x368 + 1)) = 34)) rfl rfl c478 (ok_v (r := rI .i64 (x368 + 1)) (o_load (i := 0) Tryz.isAgg3 rfl rfl rfl))) ?_
            refine obl_q rfl (fun H => ok_on (b := !decide ((bat r1.2.fS (x368 + 1)) = 34)) rfl rfl c478 (ok_v (r := rI .u8 (bat r1.2.fS (x368 + 1))) (o_index_b Tryz.underlying9 rfl rfl (imp_f g475 c477)))) ?_
            refine obl_q rfl (fun H => ok_on (b := !decide ((bat r1.2.fS (x368 + 1)) = 34)) rfl rfl c478 (ok_v (r := rB (!decide ((bat r1.2.fS (x368 + 1)) = 92))) (o_ne rfl rfl))) ?_
            refine obl_q rfl (fun H => ok_on (b := decide ((r1.2.fS.length : Int) ≤ (x368 + 1))) rfl rfl c477 (ok_v (o_pick_t rfl c478 rfl))) ?_
            refine obl_q rfl (fun H => ok_v (o_pick_f rfl c477 rfl)) ?_
            exact obl_e
           refine wk_as (l' := [(50, rv (.pointer (some ⟨b_q, 0, none⟩))), (51, rv (.pointer (some ⟨b_q, 0, none⟩))), (52, rv (.pointer (some ⟨b_q, 1, none⟩))), (53, rI .i64 (x368 + 1)), (54, rv (.pointer (some ⟨b_q, 0, none⟩))), (55, rv (.pointer (some ⟨b_q, 0, none⟩))), (56, rv (.pointer (some ⟨b_q, 0, none⟩))), (57, rS r1.2.fS), (58, rI .i64 (r1.2.fS.length : Int)), (59, rB (decide ((r1.2.fS.length : Int) ≤ (x368 + 1)))), (60, rB (decide ((r1.2.fS.length : Int) ≤ (x368 + 1)))), (61, rv (.pointer (some ⟨b_q, 0, none⟩))), (62, rv (.pointer (some ⟨b_q, 0, none⟩))), (63, rv (.pointer (some ⟨b_q, 0, none⟩))), (64, rS r1.2.fS), (65, rv (.pointer (some ⟨b_q, 0, none⟩))), (66, rv (.pointer (some ⟨b_q, 0, none⟩))), (67, rv (.pointer (some ⟨b_q, 1, none⟩))), (68, rI .i64 (x368 + 1)), (69, rI .u8 (bat r1.2.fS (x368 + 1))), (70, rB (!decide ((bat r1.2.fS (x368 + 1)) = 34))), (71, rB (!decide ((bat r1.2.fS (x368 + 1)) = 34))), (72, rv (.pointer (some ⟨b_q, 0, none⟩))), (73, rv (.pointer (some ⟨b_q, 0, none⟩))), (74, rv (.pointer (some ⟨b_q, 0, none⟩))), (75, rS r1.2.fS), (76, rv (.pointer (some ⟨b_q, 0, none⟩))), (77, rv (.pointer (some ⟨b_q, 0, none⟩))), (78, rv (.pointer (some ⟨b_q, 1, none⟩))), (79, rI .i64 (x368 + 1)), (80, rI .u8 (bat r1.2.fS (x368 + 1))), (81, rB (!decide ((bat r1.2.fS (x368 + 1)) = 92))), (82, rB (!decide ((bat r1.2.fS (x368 + 1)) = 92))), (83, rB (!decide ((bat r1.2.fS (x368 + 1)) = 92))), (0, rv (.pointer (some ⟨b_q, 0, none⟩))), (2, rS ([] : Str)), (3, rB false), (4, rv v367), (5, rI .u8 (bat r1.2.fS x368)), (9, rv (.pointer (some ⟨b_q, 0, none⟩))), (10, rv (.pointer (some ⟨b_q, 0, none⟩))), (11, rv (.pointer (some ⟨b_q, 1, none⟩))), (12, rI .i64 x368), (13, rv (.pointer (some ⟨b_q, 0, none⟩))), (14, rv (.pointer (some ⟨b_q, 0, none⟩))), (15, rv (.pointer (some ⟨b_q, 0, none⟩))), (16, rS r1.2.fS), (17, rI .i64 (r1.2.fS.length : Int)), (18, rB (decide (x368 < (r1.2.fS.length : Int)))), (19, rv (.pointer (some ⟨b_q, 0, none⟩))), (20, rv (.pointer (some ⟨b_q, 0, none⟩))), (21, rv (.pointer (some ⟨b_q, 0, none⟩))), (22, rS r1.2.fS), (23, rv (.pointer (some ⟨b_q, 0, none⟩))), (24, rv (.pointer (some ⟨b_q, 0, none⟩))), (25, rv (.pointer (some ⟨b_q, 1, none⟩))), (26, rI .i64 x368), (27, rI .u8 (bat r1.2.fS x368)), (28, rv (.pointer (some ⟨b_q, 0, none⟩))), (29, rv (.pointer (some ⟨b_q, 0, none⟩))), (30, rv (.pointer (some ⟨b_q, 1, none⟩))), (31, rI .i64 x368), (32, rI .i64 (x368 + 1)), (33, rv (.pointer (some ⟨b_q, 0, none⟩))), (34, rv (.pointer (some ⟨b_q, 1, none⟩))), (35, rB (decide ((bat r1.2.fS x368) = 34))), (36, rI .u8 (bat r1.2.fS x368)), (37, rB (decide ((bat r1.2.fS x368) = 34))), (40, rB ((decide ((bat r1.2.fS x368) < 32)) || (decide (126 < (bat r1.2.fS x368))))), (41, rI .u8 (bat r1.2.fS x368)), (42, rB (decide ((bat r1.2.fS x368) < 32))), (43, rB (decide ((bat r1.2.fS x368) < 32))), (46, rB ((decide ((bat r1.2.fS x368) < 32)) || (decide (126 < (bat r1.2.fS x368))))), (47, rB (decide ((bat r1.2.fS x368) = 92))), (48, rI .u8 (bat r1.2.fS x368)), (49, rB (decide ((bat r1.2.fS x368) = 92)))]) (H' := [.blk b_q [rS r1.2.fS, rI .i64 (x368 + 1), rv v4, rB r1.2.fGreat] 57, .row v4 63 4 (List.map eTApiCell r1.2.fCells), .row v367 5 1 (List.map eI_u8 x366)]) rfl rfl ?_
           exact wk_then (wk_mid (Sub.c rfl (Sub.c rfl (Sub.c rfl (Sub.c5 rfl rfl rfl rfl rfl (Sub.c5 rfl rfl rfl rfl rfl (Sub.c5 rfl rfl rfl rfl rfl (Sub.c5 rfl rfl rfl rfl rfl (Sub.c5 rfl rfl rfl rfl rfl (Sub.c5 rfl rfl rfl rfl rfl (Sub.c5 rfl rfl rfl rfl rfl (Sub.c5 rfl rfl rfl rfl rfl (Sub.c5 rfl rfl rfl rfl rfl (Sub.c5 rfl rfl rfl rfl rfl (Sub.c (by first | rfl | (simp only [c477, c478]; rfl) | simp [c477, c478]) Sub.nil)))))))))))))) (sC (sC (sC sN))))
          ·refine wc_rd [⟨[], rv (.pointer (some ⟨b_q, 0, none⟩)), 0⟩, ⟨[0], rv (.pointer (some ⟨b_q, 0, none⟩)), 0⟩, ⟨[1], rv (.pointer (some ⟨b_q, 1, none⟩)), 0⟩, ⟨[2], rI .i64 (x368 + 1), 1⟩, ⟨[], rv (.pointer (some ⟨b_q, 0, none⟩)), 0⟩, ⟨[4], rv (.pointer (some ⟨b_q, 0, none⟩)), 0⟩, ⟨[5], rv (.pointer (some ⟨b_q, 0, none⟩)), 0⟩, ⟨[6], rS r1.2.fS, 1⟩, ⟨[7], rI .i64 (r1.2.fS.length : Int), 0⟩, ⟨[3, 8], rB (decide ((r1.2.fS.length : Int) ≤ (x368 + 1))), 0⟩, ⟨[9], rB (decide ((r1.2.fS.length : Int) ≤ (x368 + 1))), 0⟩, ⟨[10], rv (.pointer (some ⟨b_q, 0, none⟩)), 0⟩, ⟨[11, 10], rv (.pointer (some ⟨b_q, 0, none⟩)), 0⟩, ⟨[12, 10], rv (.pointer (some ⟨b_q, 0, none⟩)), 0⟩, ⟨[13, 10], rS r1.2.fS, 1⟩, ⟨[10], rv (.pointer (some ⟨b_q, 0, none⟩)), 0⟩, ⟨[15, 10], rv (.pointer (some ⟨b_q, 0, none⟩)), 0⟩, ⟨[16, 10], rv (.pointer (some ⟨b_q, 1, none⟩)), 0⟩, ⟨[17, 10], rI .i64 (x368 + 1), 1⟩, ⟨[14, 18, 10], rI .u8 (bat r1.2.fS (x368 + 1)), 0⟩, ⟨[19, 10], rB (!decide ((bat r1.2.fS (x368 + 1)) = 34)), 0⟩, ⟨[20, 10], rB (!decide ((bat r1.2.fS (x368 + 1)) = 34)), 0⟩, ⟨[21], rv undef, 0⟩, ⟨[22, 21], rv undef, 0⟩, ⟨[23, 21], rv undef, 0⟩, ⟨[24, 21], rv undef, 0⟩, ⟨[21], rv undef, 0⟩, ⟨[26, 21], rv undef, 0⟩, ⟨[27, 21], rv undef, 0⟩, ⟨[28, 21], rv undef, 0⟩, ⟨[25, 29, 21], rv undef, 0⟩, ⟨[30, 21], rv undef, 0⟩, ⟨[21, 31, 10], rB false, 0⟩, ⟨[10, 32], rB false, 0⟩] (rle [(35, [.blk b_q [rS r1.2.fS, rI .i64 (x368 + 1), rv v4, rB r1.2.fGreat] 57, .row v4 63 4 (List.map eTApiCell r1.2.fCells), .row v367 5 1 (List.map eI_u8 x366)])]) [(0, rv (.pointer (some ⟨b_q, 0, none⟩))), (2, rS ([] : Str)), (3, rB false), (4, rv v367), (5, rI .u8 (bat r1.2.fS x368)), (9, rv (.pointer (some ⟨b_q, 0, none⟩))), (10, rv (.pointer (some ⟨b_q, 0, none⟩))), (11, rv (.pointer (some ⟨b_q, 1, none⟩))), (12, rI .i64 x368), (13, rv (.pointer (some ⟨b_q, 0, none⟩))), (14, rv (.pointer (some ⟨b_q, 0, none⟩))), (15, rv (.pointer (some ⟨b_q, 0, none⟩))), (16, rS r1.2.fS), (17, rI .i64 (r1.2.fS.length : Int)), (18, rB (decide (x368 < (r1.2.fS.length : Int)))), (19, rv (.pointer (some ⟨b_q, 0, none⟩))), (20, rv (.pointer (some ⟨b_q, 0, none⟩))), (21, rv (.pointer (some ⟨b_q, 0, none⟩))), (22, rS r1.2.fS), (23, rv (.pointer (some ⟨b_q, 0, none⟩))), (24, rv (.pointer (some ⟨b_q, 0, none⟩))), (25, rv (.pointer (some ⟨b_q, 1, none⟩))), (26, rI .i64 x368), (27, rI .u8 (bat r1.2.fS x368)), (28, rv (.pointer (some ⟨b_q, 0, none⟩))), (29, rv (.pointer (some ⟨b_q, 0, none⟩))), (30, rv (.pointer (some ⟨b_q, 1, none⟩))), (31, rI .i64 x368), (32, rI .i64 (x368 + 1)), (33, rv (.pointer (some ⟨b_q, 0, none⟩))), (34, rv (.pointer (some ⟨b_q, 1, none⟩))), (35, rB (decide ((bat r1.2.fS x368) = 34))), (36, rI .u8 (bat r1.2.fS x368)), (37, rB (decide ((bat r1.2.fS x368) = 34))), (40, rB ((decide ((bat r1.2.fS x368) < 32)) || (decide (126 < (bat r1.2.fS x368))))), (41, rI .u8 (bat r1.2.fS x368)), (42, rB (decide ((bat r1.2.fS x368) < 32))), (43, rB (decide ((bat r1.2.fS x368) < 32))), (46, rB ((decide ((bat r1.2.fS x368) < 32)) || (decide (126 < (bat r1.2.fS x368))))), (47, rB (decide ((bat r1.2.fS x368) = 92))), (48, rI .u8 (bat r1.2.fS x368)), (49, rB (decide ((bat r1.2.fS x368) = 92)))] (by kernel_rfl) (by kernel_rfl) (Sub.c rfl (Sub.c rfl (Sub.c5 rfl rfl rfl rfl rfl (Sub.c5 rfl rfl rfl rfl rfl (Sub.c5 rfl rfl rfl rfl rfl (Sub.c5 rfl rfl rfl rfl rfl (Sub.c5 rfl rfl rfl rfl rfl (Sub.c5 rfl rfl rfl rfl rfl (Sub.c5 rfl rfl rfl rfl rfl (Sub.c5 rfl rfl rfl rfl rfl Sub.nil)))))))))) rfl rfl ?_ ?_
           ·refine obl_q rfl (fun H => ok_v (o_move rfl)) ?_
            refine obl_q rfl (fun H => ok_v (r := rv (.pointer (some ⟨b_q, 0, none⟩))) (o_nilcheck rfl)) ?_
            refine obl_q rfl (fun H => ok_v (r := rv (.pointer (some ⟨b_q, 1, none⟩))) (o_fieldAddr Tryz.underlying57 rfl Tryz.sizeOf3 rfl rfl)) ?_
            refine obl_f rfl (ok_v (r := rI .i64 (x368 + 1)) (o_load (i := 0) Tryz.isAgg3 rfl rfl rfl)) ?_
            refine obl_q rfl (fun H => ok_v (o_move rfl)) ?_
            refine obl_q rfl (fun H => ok_v (r := rv (.pointer (some ⟨b_q, 0, none⟩))) (o_nilcheck rfl)) ?_
            refine obl_q rfl (fun H => ok_v (r := rv (.pointer (some ⟨b_q, 0, none⟩))) (o_fieldAddr Tryz.underlying57 rfl Tryz.sizeOf9 rfl rfl)) ?_
            refine obl_f rfl (ok_v (r := rS r1.2.fS) (o_load (i := 0) Tryz.isAgg9 rfl rfl rfl)) ?_
            refine obl_q rfl (fun H => ok_v (r := rI .i64 (r1.2.fS.length : Int)) (o_len_s Tryz.underlying9 rfl)) ?_
            refine obl_q rfl (fun H => ok_v (r := rB (decide ((r1.2.fS.length : Int) ≤ (x368 + 1)))) (o_ge rfl rfl)) ?_
            refine obl_q rfl (fun H => ok_v (o_move rfl)) ?_
            refine obl_q rfl (fun H => ok_on (b := decide ((r1.2.fS.length : Int) ≤ (x368 + 1))) rfl rfl c477 (ok_v (o_move rfl))) ?_
            refine obl_q rfl (fun H => ok_on (b := decide ((r1.2.fS.length : Int) ≤ (x368 + 1))) rfl rfl c477 (ok_v (r := rv (.pointer (some ⟨b_q, 0, none⟩))) (o_nilcheck rfl))) ?_
            refine obl_q rfl (fun H => ok_on (b := decide ((r1.2.fS.length : Int) ≤ (x368 + 1))) rfl rfl c477 (ok_v (r := rv (.pointer (some ⟨b_q, 0, none⟩))) (o_fieldAddr Tryz.underlying57 rfl Tryz.sizeOf9 rfl rfl))) ?_
            refine obl_f rfl (ok_on (b := decide ((r1.2.fS.length : Int) ≤ (x368 + 1))) rfl rfl c477 (ok_v (r := rS r1.2.fS) (o_load (i := 0) Tryz.isAgg9 rfl rfl rfl))) ?_
            refine obl_q rfl (fun H => ok_on (b := decide ((r1.2.fS.length : Int) ≤ (x368 + 1))) rfl rfl c477 (ok_v (o_move rfl))) ?_
            refine obl_q rfl (fun H => ok_on (b := decide ((r1.2.fS.length : Int) ≤ (x368 + 1))) rfl rfl c477 (ok_v (r := rv (.pointer (some ⟨b_q, 0, none⟩))) (o_nilcheck rfl))) ?_
            refine obl_q rfl (fun H => ok_on (b := decide ((r1.2.fS.length : Int) ≤ (x368 + 1))) rfl rfl c477 (ok_v (r := rv (.pointer (some ⟨b_q, 1, none⟩))) (o_fieldAddr Tryz.underlying57 rfl Tryz.sizeOf3 rfl rfl))) ?_
            refine obl_f rfl (ok_on (b := decide ((r1.2.fS.length : Int) ≤ (x368 + 1))) rfl rfl c477 (ok_v (r := rI .i64 (x368 + 1)) (o_load (i := 0) Tryz.isAgg3 rfl rfl rfl))) ?_
            refine obl_q rfl (fun H => ok_on (b := decide ((r1.2.fS.length : Int) ≤ (x368 + 1))) rfl rfl c477 (ok_v (r := rI .u8 (bat r1.2.fS (x368 + 1))) (o_index_b Tryz.underlying9 rfl rfl (imp_f g475 c477)))) ?_
            refine obl_q rfl (fun H => ok_on (b := decide ((r1.2.fS.length : Int) ≤ (x368 + 1))) rfl rfl c477 (ok_v (r := rB (!decide ((bat r1.2.fS (x368 + 1)) = 34))) (o_ne rfl rfl))) ?_
            refine obl_q rfl (fun H => ok_on (b := decide ((r1.2.fS.length : Int) ≤ (x368 + 1))) rfl rfl c477 (ok_v (o_move rfl))) ?_
            refine obl_q rfl (fun H => ok_off (b := !decide ((bat r1.2.fS (x368 + 1)) = 34)) rfl rfl c478) ?_
            refine obl_q rfl (fun H => ok_off (b := !decide ((bat r1.2.fS (x368 + 1)) = 34)) rfl rfl c478) ?_
            refine obl_q rfl (fun H => ok_off (b := !decide ((bat r1.2.fS (x368 + 1)) = 34)) rfl rfl c478) ?_
            refine obl_q rfl (fun H => ok_off (b := !decide ((bat r1.2.fS (x368 + 1)) = 34)) rfl rfl c478) ?_
            refine obl_q rfl (fun H => ok_off (b := !decide ((bat r1.2.fS (x368 + 1)) = 34)) rfl rfl c478) ?_
            refine obl_q rfl (fun H => ok_off (b := !decide ((bat r1.2.fS (x368 + 1)) = 34)) rfl rfl c478) ?_
            refine obl_q rfl (fun H => ok_off (b := !decide ((bat r1.2.fS (x368 + 1)) = 34)) rfl rfl c478) ?_
            refine obl_q rfl (fun H => ok_off (b := !decide ((bat r1.2.fS (x368 + 1)) = 34)) rfl rfl c478) ?_
            refine obl_q rfl (fun H => ok_off (b := !decide ((bat r1.2.fS (x368 + 1)) = 34)) rfl rfl c478) ?_
            refine obl_q rfl (fun H => ok_off (b := !decide ((bat r1.2.fS (x368 + 1)) = 34)) rfl rfl c478) ?_
            refine obl_q rfl (fun H => ok_on (b := decide ((r1.2.fS.length : Int) ≤ (x368 + 1))) rfl rfl c477 (ok_v (r := rB false) (o_pick_f (b := !decide ((bat r1.2.fS (x368 + 1)) = 34)) rfl c478 rfl))) ?_
            refine obl_q rfl (fun H => ok_v (o_pick_f rfl c477 rfl)) ?_
            exact obl_e
           refine wk_as (l' := [(50, rv (.pointer (some ⟨b_q, 0, none⟩))), (51, rv (.pointer (some ⟨b_q, 0, none⟩))), (52, rv (.pointer (some ⟨b_q, 1, none⟩))), (53, rI .i64 (x368 + 1)), (54, rv (.pointer (some ⟨b_q, 0, none⟩))), (55, rv (.pointer (some ⟨b_q, 0, none⟩))), (56, rv (.pointer (some ⟨b_q, 0, none⟩))), (57, rS r1.2.fS), (58, rI .i64 (r1.2.fS.length : Int)), (59, rB (decide ((r1.2.fS.length : Int) ≤ (x368 + 1)))), (60, rB (decide ((r1.2.fS.length : Int) ≤ (x368 + 1)))), (61, rv (.pointer (some ⟨b_q, 0, none⟩))), (62, rv (.pointer (some ⟨b_q, 0, none⟩))), (63, rv (.pointer (some ⟨b_q, 0, none⟩))), (64, rS r1.2.fS), (65, rv (.pointer (some ⟨b_q, 0, none⟩))), (66, rv (.pointer (some ⟨b_q, 0, none⟩))), (67, rv (.pointer (some ⟨b_q, 1, none⟩))), (68, rI .i64 (x368 + 1)), (69, rI .u8 (bat r1.2.fS (x368 + 1))), (70, rB (!decide ((bat r1.2.fS (x368 + 1)) = 34))), (71, rB (!decide ((bat r1.2.fS (x368 + 1)) = 34))), (72, rv undef), (73, rv undef), (74, rv undef), (75, rv undef), (76, rv undef), (77, rv undef), (78, rv undef), (79, rv undef), (80, rv undef), (81, rv undef), (82, rB false), (83, rB false), (0, rv (.pointer (some ⟨b_q, 0, none⟩))), (2, rS ([] : Str)), (3, rB false), (4, rv v367), (5, rI .u8 (bat r1.2.fS x368)), (9, rv (.pointer (some ⟨b_q, 0, none⟩))), (10, rv (.pointer (some ⟨b_q, 0, none⟩))), (11, rv (.pointer (some ⟨b_q, 1, none⟩))), (12, rI .i64 x368), (13, rv (.pointer (some ⟨b_q, 0, none⟩))), (14, rv (.pointer (some ⟨b_q, 0, none⟩))), (15, rv (.pointer (some ⟨b_q, 0, none⟩))), (16, rS r1.2.fS), (17, rI .i64 (r1.2.fS.length : Int)), (18, rB (decide (x368 < (r1.2.fS.length : Int)))), (19, rv (.pointer (some ⟨b_q, 0, none⟩))), (20, rv (.pointer (some ⟨b_q, 0, none⟩))), (21, rv (.pointer (some ⟨b_q, 0, none⟩))), (22, rS r1.2.fS), (23, rv (.pointer (some ⟨b_q, 0, none⟩))), (24, rv (.pointer (some ⟨b_q, 0, none⟩))), (25, rv (.pointer (some ⟨b_q, 1, none⟩))), (26, rI .i64 x368), (27, rI .u8 (bat r1.2.fS x368)), (28, rv (.pointer (some ⟨b_q, 0, none⟩))), (29, rv (.pointer (some ⟨b_q, 0, none⟩))), (30, rv (.pointer (some ⟨b_q, 1, none⟩))), (31, rI .i64 x368), (32, rI .i64 (x368 + 1)), (33, rv (.pointer (some ⟨b_q, 0, none⟩))), (34, rv (.pointer (some ⟨b_q, 1, none⟩))), (35, rB (decide ((bat r1.2.fS x368) = 34))), (36, rI .u8 (bat r1.2.fS x368)), (37, rB (decide ((bat r1.2.fS x368) = 34))), (40, rB ((decide ((bat r1.2.fS x368) < 32)) || (decide (126 < (bat r1.2.fS x368))))), (41, rI .u8 (bat r1.2.fS x368)), (42, rB (decide ((bat r1.2.fS x368) < 32))), (43, rB (decide ((bat r1.2.fS x368) < 32))), (46, rB ((decide ((bat r1.2.fS x368) < 32)) || (decide (126 < (bat r1.2.fS x368))))), (47, rB (decide ((bat r1.2.fS x368) = 92))), (48, rI .u8 (bat r1.2.fS x368)), (49, rB (decide ((bat r1.2.fS x368) = 92)))]) (H' := [.blk b_q [rS r1.2.fS, rI .i64 (x368 + 1), rv v4, rB r1.2.fGreat] 57, .row v4 63 4 (List.map eTApiCell r1.2.fCells), .row v367 5 1 (List.map eI_u8 x366)]) rfl rfl ?_
           exact wk_then (wk_mid (Sub.c rfl (Sub.c rfl (Sub.c rfl (Sub.c5 rfl rfl rfl rfl rfl (Sub.c5 rfl rfl rfl rfl rfl (Sub.c5 rfl rfl rfl rfl rfl (Sub.c5 rfl rfl rfl rfl rfl (Sub.c5 rfl rfl rfl rfl rfl (Sub.c5 rfl rfl rfl rfl rfl (Sub.c5 rfl rfl rfl rfl rfl (Sub.c5 rfl rfl rfl rfl rfl (Sub.c5 rfl rfl rfl rfl rfl (Sub.c5 rfl rfl rfl rfl rfl (Sub.c (by first | rfl | (simp only [c477, c478]; rfl) | simp [c477, c478]) Sub.nil)))))))))))))) (sC (sC (sC sN))))
        refine wc_cond (b := ((decide ((r1.2.fS.length : Int) ≤ (x368 + 1))) || ((!decide ((bat r1.2.fS (x368 + 1)) = 34)) && (!decide ((bat r1.2.fS (x368 + 1)) = 92))))) rfl (fun c479 => ?_) (fun c479 => ?_)
        ·have h480 := cnd_t c479 h476
         refine wc_sr ?_
         refine wv (r := rS ([] : Str)) (o_assign rfl) ?_
         refine wv (r := rB false) (o_assign rfl) ?_
         refine wl_x ?_
         refine wc_ret ?_
         refine wk_then_ret ?_
         refine wk_in_ret ?_
         refine wk_then_ret ?_
         refine wk_in_ret ?_
         refine wk_then_ret ?_
         refine wk_cut_ret ?_
         have h481 := stp_ret h480 ht430 hK428
         refine wk_in_ret ?_
         refine wk_then_ret ?_
         obtain rfl := some_e h481
         exact wk_ret (r_2 Tryz.results66 (rv_t rfl) (rv_t rfl)) (sC (sC (sS sN))) ⟨v4, rfl, rfl⟩
        ·have h482 := cnd_f c479 h476
         refine wc_skip ?_
         refine wk_x ?_
         refine wc_seq ?_
         obtain ⟨g483, h484⟩ := chk_e h482
         refine wc_rd [⟨[], rv (.pointer (some ⟨b_q, 0, none⟩)), 0⟩, ⟨[0], rv (.pointer (some ⟨b_q, 0, none⟩)), 0⟩, ⟨[1], rv (.pointer (some ⟨b_q, 0, none⟩)), 0⟩, ⟨[2], rS r1.2.fS, 1⟩, ⟨[], rv (.pointer (some ⟨b_q, 0, none⟩)), 0⟩, ⟨[4], rv (.pointer (some ⟨b_q, 0, none⟩)), 0⟩, ⟨[5], rv (.pointer (some ⟨b_q, 1, none⟩)), 0⟩, ⟨[6], rI .i64 (x368 + 1), 1⟩, ⟨[3, 7], rI .u8 (bat r1.2.fS (x368 + 1)), 0⟩, ⟨[8], rI .u8 (bat r1.2.fS (x368 + 1)), 0⟩] (rle [(11, [.blk b_q [rS r1.2.fS, rI .i64 (x368 + 1), rv v4, rB r1.2.fGreat] 57, .row v4 63 4 (List.map eTApiCell r1.2.fCells), .row v367 5 1 (List.map eI_u8 x366)])]) [(0, rv (.pointer (some ⟨b_q, 0, none⟩))), (2, rS ([] : Str)), (3, rB false), (4, rv v367), (9, rv (.pointer (some ⟨b_q, 0, none⟩))), (10, rv (.pointer (some ⟨b_q, 0, none⟩))), (11, rv (.pointer (some ⟨b_q, 1, none⟩))), (12, rI .i64 x368), (13, rv (.pointer (some ⟨b_q, 0, none⟩))), (14, rv (.pointer (some ⟨b_q, 0, none⟩))), (15, rv (.pointer (some ⟨b_q, 0, none⟩))), (16, rS r1.2.fS), (17, rI .i64 (r1.2.fS.length : Int)), (18, rB (decide (x368 < (r1.2.fS.length : Int)))), (19, rv (.pointer (some ⟨b_q, 0, none⟩))), (20, rv (.pointer (some ⟨b_q, 0, none⟩))), (21, rv (.pointer (some ⟨b_q, 0, none⟩))), (22, rS r1.2.fS), (23, rv (.pointer (some ⟨b_q, 0, none⟩))), (24, rv (.pointer (some ⟨b_q, 0, none⟩))), (25, rv (.pointer (some ⟨b_q, 1, none⟩))), (26, rI .i64 x368), (27, rI .u8 (bat r1.2.fS x368)), (28, rv (.pointer (some ⟨b_q, 0, none⟩))), (29, rv (.pointer (some ⟨b_q, 0, none⟩))), (30, rv (.pointer (some ⟨b_q, 1, none⟩))), (31, rI .i64 x368), (32, rI .i64 (x368 + 1)), (33, rv (.pointer (some ⟨b_q, 0, none⟩))), (34, rv (.pointer (some ⟨b_q, 1, none⟩))), (35, rB (decide ((bat r1.2.fS x368) = 34))), (36, rI .u8 (bat r1.2.fS x368)), (37, rB (decide ((bat r1.2.fS x368) = 34))), (40, rB ((decide ((bat r1.2.fS x368) < 32)) || (decide (126 < (bat r1.2.fS x368))))), (41, rI .u8 (bat r1.2.fS x368)), (42, rB (decide ((bat r1.2.fS x368) < 32))), (43, rB (decide ((bat r1.2.fS x368) < 32))), (46, rB ((decide ((bat r1.2.fS x368) < 32)) || (decide (126 < (bat r1.2.fS x368))))), (47, rB (decide ((bat r1.2.fS x368) = 92))), (48, rI .u8 (bat r1.2.fS x368)), (49, rB (decide ((bat r1.2.fS x368) = 92))), (50, rv (.pointer (some ⟨b_q, 0, none⟩))), (51, rv (.pointer (some ⟨b_q, 0, none⟩))), (52, rv (.pointer (some ⟨b_q, 1, none⟩))), (53, rI .i64 (x368 + 1)), (54, rv (.pointer (some ⟨b_q, 0, none⟩))), (55, rv (.pointer (some ⟨b_q, 0, none⟩))), (56, rv (.pointer (some ⟨b_q, 0, none⟩))), (57, rS r1.2.fS), (58, rI .i64 (r1.2.fS.length : Int)), (59, rB (decide ((r1.2.fS.length : Int) ≤ (x368 + 1)))), (60, rB (decide ((r1.2.fS.length : Int) ≤ (x368 + 1)))), (83, rB ((decide ((r1.2.fS.length : Int) ≤ (x368 + 1))) || ((!decide ((bat r1.2.fS (x368 + 1)) = 34)) && (!decide ((bat r1.2.fS (x368 + 1)) = 92)))))] (by kernel_rfl) (by kernel_rfl) (Sub.c rfl (Sub.c rfl (Sub.c rfl (Sub.c5 rfl rfl rfl rfl rfl (Sub.c5 rfl rfl rfl rfl rfl (Sub.c5 rfl rfl rfl rfl rfl (Sub.c5 rfl rfl rfl rfl rfl (Sub.c5 rfl rfl rfl rfl rfl (Sub.c5 rfl rfl rfl rfl rfl (Sub.c5 rfl rfl rfl rfl rfl (Sub.c5 rfl rfl rfl rfl rfl (Sub.c5 rfl rfl rfl rfl rfl (Sub.c5 rfl rfl rfl rfl rfl Sub.nil))))))))))))) rfl rfl ?_ ?_
         ·refine obl_q rfl (fun H => ok_v (o_move rfl)) ?_
          refine obl_q rfl (fun H => ok_v (r := rv (.pointer (some ⟨b_q, 0, none⟩))) (o_nilcheck rfl)) ?_
          refine obl_q rfl (fun H => ok_v (r := rv (.pointer (some ⟨b_q, 0, none⟩))) (o_fieldAddr Tryz.underlying57 rfl Tryz.sizeOf9 rfl rfl)) ?_
          refine obl_f rfl (ok_v (r := rS r1.2.fS) (o_load (i := 0) Tryz.isAgg9 rfl rfl rfl)) ?_
          refine obl_q rfl (fun H => ok_v (o_move rfl)) ?_
          refine obl_q rfl (fun H => ok_v (r := rv (.pointer (some ⟨b_q, 0, none⟩))) (o_nilcheck rfl)) ?_
          refine obl_q rfl (fun H => ok_v (r := rv (.pointer (some ⟨b_q, 1, none⟩))) (o_fieldAddr Tryz.underlying57 rfl Tryz.sizeOf3 rfl rfl)) ?_
          refine obl_f rfl (ok_v (r := rI .i64 (x368 + 1)) (o_load (i := 0) Tryz.isAgg3 rfl rfl rfl)) ?_
          refine obl_q rfl (fun H => ok_v (r := rI .u8 (bat r1.2.fS (x368 + 1))) (o_index_b Tryz.underlying9 rfl rfl g483)) ?_
          refine obl_q rfl (fun H => ok_v (o_assign rfl)) ?_
          exact obl_e
         refine wk_as (l' := [(84, rv (.pointer (some ⟨b_q, 0, none⟩))), (85, rv (.pointer (some ⟨b_q, 0, none⟩))), (86, rv (.pointer (some ⟨b_q, 0, none⟩))), (87, rS r1.2.fS), (88, rv (.pointer (some ⟨b_q, 0, none⟩))), (89, rv (.pointer (some ⟨b_q, 0, none⟩))), (90, rv (.pointer (some ⟨b_q, 1, none⟩))), (91, rI .i64 (x368 + 1)), (92, rI .u8 (bat r1.2.fS (x368 + 1))), (5, rI .u8 (bat r1.2.fS (x368 + 1))), (0, rv (.pointer (some ⟨b_q, 0, none⟩))), (2, rS ([] : Str)), (3, rB false), (4, rv v367), (9, rv (.pointer (some ⟨b_q, 0, none⟩))), (10, rv (.pointer (some ⟨b_q, 0, none⟩))), (11, rv (.pointer (some ⟨b_q, 1, none⟩))), (12, rI .i64 x368), (13, rv (.pointer (some ⟨b_q, 0, none⟩))), (14, rv (.pointer (some ⟨b_q, 0, none⟩))), (15, rv (.pointer (some ⟨b_q, 0, none⟩))), (16, rS r1.2.fS), (17, rI .i64 (r1.2.fS.length : Int)), (18, rB (decide (x368 < (r1.2.fS.length : Int)))), (19, rv (.pointer (some ⟨b_q, 0, none⟩))), (20, rv (.pointer (some ⟨b_q, 0, none⟩))), (21, rv (.pointer (some ⟨b_q, 0, none⟩))), (22, rS r1.2.fS), (23, rv (.pointer (some ⟨b_q, 0, none⟩))), (24, rv (.pointer (some ⟨b_q, 0, none⟩))), (25, rv (.pointer (some ⟨b_q, 1, none⟩))), (26, rI .i64 x368), (27, rI .u8 (bat r1.2.fS x368)), (28, rv (.pointer (some ⟨b_q, 0, none⟩))), (29, rv (.pointer (some ⟨b_q, 0, none⟩))), (30, rv (.pointer (some ⟨b_q, 1, none⟩))), (31, rI .i64 x368), (32, rI .i64 (x368 + 1)), (33, rv (.pointer (some ⟨b_q, 0, none⟩))), (34, rv (.pointer (some ⟨b_q, 1, none⟩))), (35, rB (decide ((bat r1.2.fS x368) = 34))), (36, rI .u8 (bat r1.2.fS x368)), (37, rB (decide ((bat r1.2.fS x368) = 34))), (40, rB ((decide ((bat r1.2.fS x368) < 32)) || (decide (126 < (bat r1.2.fS x368))))), (41, rI .u8 (bat r1.2.fS x368)), (42, rB (decide ((bat r1.2.fS x368) < 32))), (43, rB (decide ((bat r1.2.fS x368) < 32))), (46, rB ((decide ((bat r1.2.fS x368) < 32)) || (decide (126 < (bat r1.2.fS x368))))), (47, rB (decide ((bat r1.2.fS x368) = 92))), (48, rI .u8 (bat r1.2.fS x368)), (49, rB (decide ((bat r1.2.fS x368) = 92))), (50, rv (.pointer (some ⟨b_q, 0, none⟩))), (51, rv (.pointer (some ⟨b_q, 0, none⟩))), (52, rv (.pointer (some ⟨b_q, 1, none⟩))), (53, rI .i64 (x368 + 1)), (54, rv (.pointer (some ⟨b_q, 0, none⟩))), (55, rv (.pointer (some ⟨b_q, 0, none⟩))), (56, rv (.pointer (some ⟨b_q, 0, none⟩))), (57, rS r1.2.fS), (58, rI .i64 (r1.2.fS.length : Int)), (59, rB (decide ((r1.2.fS.length : Int) ≤ (x368 + 1)))), (60, rB (decide ((r1.2.fS.length : Int) ≤ (x368 + 1)))), (83, rB ((decide ((r1.2.fS.length : Int) ≤ (x368 + 1))) || ((!decide ((bat r1.2.fS (x368 + 1)) = 34)) && (!decide ((bat r1.2.fS (x368 + 1)) = 92)))))]) (H' := [.blk b_q [rS r1.2.fS, rI .i64 (x368 + 1), rv v4, rB r1.2.fGreat] 57, .row v4 63 4 (List.map eTApiCell r1.2.fCells), .row v367 5 1 (List.map eI_u8 x366)]) rfl rfl ?_
         refine wk_x ?_
         refine wc_region ?_
         refine wm rfl ?_
         refine wv (r := rv (.pointer (some ⟨b_q, 0, none⟩))) (o_nilcheck rfl) ?_
         refine wv (r := rv (.pointer (some ⟨b_q, 1, none⟩))) (o_fieldAddr Tryz.underlying57 rfl Tryz.sizeOf3 rfl rfl) ?_
         refine wv (r := rI .i64 (x368 + 1)) (o_load (i := 0) Tryz.isAgg3 rfl rfl rfl) ?_
         obtain ⟨g485, h486⟩ := chk_e h484
         refine wv (r := rI .i64 ((x368 + 1) + 1)) (o_add rfl rfl g485) ?_
         refine wv (r := rv (.pointer (some ⟨b_q, 0, none⟩))) (o_nilcheck rfl) ?_
         refine wv (r := rv (.pointer (some ⟨b_q, 1, none⟩))) (o_fieldAddr Tryz.underlying57 rfl Tryz.sizeOf3 rfl rfl) ?_
         refine u_store (i := 0) Tryz.sizeOf3 rfl rfl (one_c rfl) rfl rfl (cs' := [rS r1.2.fS, rI .i64 ((x368 + 1) + 1), rv v4, rB r1.2.fGreat]) rfl (H' := [.blk b_q [rS r1.2.fS, rI .i64 ((x368 + 1) + 1), rv v4, rB r1.2.fGreat] 57, .row v4 63 4 (List.map eTApiCell r1.2.fCells), .row v367 5 1 (List.map eI_u8 x366)]) rfl ?_
         refine wl_nil ?_
         refine wk_in_norm ?_
         exact wk_then (wk_some ((bat r1.2.fS (x368 + 1), (x368 + 1) + 1), ()) h486 (Sub.c rfl (Sub.c rfl (Sub.c5 rfl rfl rfl rfl rfl (Sub.c5 rfl rfl rfl rfl rfl (Sub.c5 rfl rfl rfl rfl rfl (Sub.c5 rfl rfl rfl rfl rfl (Sub.c5 rfl rfl rfl rfl rfl (Sub.c5 rfl rfl rfl rfl rfl (Sub.c5 rfl rfl rfl rfl rfl (Sub.c5 rfl rfl rfl rfl rfl Sub.nil)))))))))) (sC (sC (sC sN))))
       ·have h487 := cnd_f c473 h472
        refine wc_skip ?_
        refine wk_in_norm ?_
        exact wk_then (wk_some ((bat r1.2.fS x368, x368 + 1), ()) h487 (Sub.c rfl (Sub.c rfl (Sub.c5 rfl rfl rfl rfl rfl (Sub.c5 rfl rfl rfl rfl rfl (Sub.c5 rfl rfl rfl rfl rfl (Sub.c5 rfl rfl rfl rfl rfl (Sub.c5 rfl rfl rfl rfl rfl (Sub.c5 rfl rfl rfl rfl rfl (Sub.c5 rfl rfl rfl rfl rfl (Sub.c5 rfl rfl rfl rfl rfl Sub.nil)))))))))) (sC (sC (sC sN))))
    ·rintro ⟨⟨x462, x463⟩, ⟨⟩⟩ h488
     refine wc_as (l' := [(0, rv (.pointer (some ⟨b_q, 0, none⟩))), (2, rS ([] : Str)), (3, rB false), (4, rv v367), (5, rI .u8 x462), (9, rv (.pointer (some ⟨b_q, 0, none⟩))), (10, rv (.pointer (some ⟨b_q, 0, none⟩))), (11, rv (.pointer (some ⟨b_q, 1, none⟩))), (12, rI .i64 x368), (13, rv (.pointer (some ⟨b_q, 0, none⟩))), (14, rv (.pointer (some ⟨b_q, 0, none⟩))), (15, rv (.pointer (some ⟨b_q, 0, none⟩))), (16, rS r1.2.fS), (17, rI .i64 (r1.2.fS.length : Int)), (18, rB (decide (x368 < (r1.2.fS.length : Int)))), (19, rv (.pointer (some ⟨b_q, 0, none⟩))), (20, rv (.pointer (some ⟨b_q, 0, none⟩))), (21, rv (.pointer (some ⟨b_q, 0, none⟩))), (22, rS r1.2.fS), (23, rv (.pointer (some ⟨b_q, 0, none⟩))), (24, rv (.pointer (some ⟨b_q, 0, none⟩))), (25, rv (.pointer (some ⟨b_q, 1, none⟩))), (26, rI .i64 x368), (27, rI .u8 (bat r1.2.fS x368)), (28, rv (.pointer (some ⟨b_q, 0, none⟩))), (29, rv (.pointer (some ⟨b_q, 0, none⟩))), (30, rv (.pointer (some ⟨b_q, 1, none⟩))), (31, rI .i64 x368), (32, rI .i64 (x368 + 1)), (33, rv (.pointer (some ⟨b_q, 0, none⟩))), (34, rv (.pointer (some ⟨b_q, 1, none⟩))), (35, rB (decide ((bat r1.2.fS x368) = 34))), (36, rI .u8 (bat r1.2.fS x368)), (37, rB (decide ((bat r1.2.fS x368) = 34))), (40, rB ((decide ((bat r1.2.fS x368) < 32)) || (decide (126 < (bat r1.2.fS x368))))), (41, rI .u8 (bat r1.2.fS x368)), (42, rB (decide ((bat r1.2.fS x368) < 32))), (43, rB (decide ((bat r1.2.fS x368) < 32))), (46, rB ((decide ((bat r1.2.fS x368) < 32)) || (decide (126 < (bat r1.2.fS x368))))), (47, rB (decide ((bat r1.2.fS x368) = 92))), (48, rI .u8 (bat r1.2.fS x368)), (49, rB (decide ((bat r1.2.fS x368) = 92)))]) (H' := [.blk b_q [rS r1.2.fS, rI .i64 x463, rv v4, rB r1.2.fGreat] 57, .row v4 63 4 (List.map eTApiCell r1.2.fCells), .row v367 5 1 (List.map eI_u8 x366)]) rfl rfl ?_
     replace h488 : vRStr_j2 x366 x462 x463 = some t429 := h488
     unfold vRStr_j2 at h488
     refine wc_region ?_
     refine wm rfl ?_
     refine wm rfl ?_
     refine w_buildSlice (ys := ([x462] : List Int)) (enc := eI_u8) (css := [[rI .u8 x462]]) (xs := [.tmp 101]) Tryz.underlying72 Tryz.sizeOf5 Tryz.zeroValue5 rfl rfl rfl ⟨Cel.one rfl (Up.refl _), trivial⟩ rfl eI_u8_len rfl rfl rfl (fun b489 => ?_)
     obtain ⟨g491, h492⟩ := chk_e h488
     obtain ⟨inf, hinf⟩ := info5
     refine w_append (xs := x366) (ys := ([x462] : List Int)) (enc := eI_u8) (i := 3) Tryz.underlying72 hinf.1 hinf.2.1 hinf.2.2.1 hinf.2.2.2 rfl rfl rfl rfl rfl (Src.w (i := 0) rfl rfl) eI_u8_len eI_u8_one g491 rfl (fun v490 => ?_)
     refine wa rfl ?_
     refine wl_nil ?_
     refine wk_in_norm ?_
     refine wk_perm (H2 := [.blk b_q [rS r1.2.fS, rI .i64 x463, rv v4, rB r1.2.fGreat] 57, .row v4 63 4 (List.map eTApiCell r1.2.fCells), .row v490 5 1 (List.map eI_u8 (x366 ++ ([x462] : List Int))), .row (.slice (some ⟨b489, 0, none⟩) 1 1) 5 1 (List.map eI_u8 ([x462] : List Int))]) ((perm_front (i := 2) rfl).trans (List.Perm.cons _ ((perm_front (i := 2) rfl).trans (List.Perm.cons _ (List.Perm.refl _))))) ?_
     have h493 := stp_next h492 ht430
     exact wk_then (wk_some (m431, (x366 ++ ([x462] : List Int), x463), v490) ⟨h493, Nat.lt_succ_self _⟩ (Sub.c rfl (Sub.c rfl (Sub.c rfl (Sub.c rfl Sub.nil)))) (sC (sC (sC (sS sN)))))
   ·have h494 := cnd_f c435 h433
    refine wc_exit ?_
    refine wk_then_exit ?_
    have h495 := stp_go h494 ht430 hK428
    exact wk_then_exit (wk_cut_hit (wk_some (x368, ()) h495 (Sub.c rfl (Sub.c rfl Sub.nil)) (sC (sC (sS sN)))))
  ·rintro ⟨x425, ⟨⟩⟩ h496
   refine wk_as (l' := [(2, rS ([] : Str)), (3, rB false)]) (H' := [.blk b_q [rS r1.2.fS, rI .i64 x425, rv v4, rB r1.2.fGreat] 57, .row v4 63 4 (List.map eTApiCell r1.2.fCells)]) rfl rfl ?_
   replace h496 : vRStr_k1 r1 x425 = some r := h496
   unfold vRStr_k1 at h496
   refine wk_in_hit ?_
   refine wk_x ?_
   refine wc_sr ?_
   refine wv (r := rS ([] : Str)) (o_assign rfl) ?_
   refine wv (r := rB false) (o_assign rfl) ?_
   refine wl_x ?_
   refine wc_ret ?_
   obtain rfl := some_e h496
   exact wk_ret (r_2 Tryz.results66 (rv_t rfl) (rv_t rfl)) (sC (sC sN)) ⟨v4, rfl, rfl⟩

theorem vRInt_w (F : Nat) (b_q : Nat) (v_q_2 : Value) (q : TValueReader) (r : Bool × TValueReader) (h : vRInt F q = some r) : Fn Tryz.prog GE 95 [rv (.pointer (some ⟨b_q, 0, none⟩))] [.blk b_q [rS q.fS, rI .i64 q.fAt, rv v_q_2, rB q.fGreat] 57, .row v_q_2 63 4 (List.map eTApiCell q.fCells)] (fun R H => ∃ w0_2 : Value, R = rB r.1 ∧ H = [.blk b_q [rS r.2.fS, rI .i64 r.2.fAt, rv w0_2, rB r.2.fGreat] 57, .row w0_2 63 4 (List.map eTApiCell r.2.fCells)]) := by
 refine enter (n := 104) Tryz.func95 rfl Tryz.ntmps95 rfl (fun w Z => ?_)
 refine wc_as (l' := [(0, rv (.pointer (some ⟨b_q, 0, none⟩)))]) (H' := [.blk b_q [rS q.fS, rI .i64 q.fAt, rv v_q_2, rB q.fGreat] 57, .row v_q_2 63 4 (List.map eTApiCell q.fCells)]) rfl rfl ?_
 unfold vRInt at h
 refine wc_sr ?_
 refine wv (r := rB false) (o_assign rfl) ?_
 refine wl_y ?_
 refine wm rfl ?_
 refine wv (r := rv (.pointer (some ⟨b_q, 0, none⟩))) (o_nilcheck rfl) ?_
 refine wv (r := rv (.pointer (some ⟨b_q, 1, none⟩))) (o_fieldAddr Tryz.underlying57 rfl Tryz.sizeOf3 rfl rfl) ?_
 refine wv (r := rI .i64 q.fAt) (o_load (i := 0) Tryz.isAgg3 rfl rfl rfl) ?_
 refine wa rfl ?_
 refine wl_y ?_
 refine wm rfl ?_
 obtain ⟨r1, e3, h2⟩ := obn_e h
 refine wcl (Hr := []) Tryz.call64 (vTake_w b_q v_q_2 q ([45] : Str) r1 e3) rfl (List.Perm.refl _) rfl ?_
 rintro _ _ ⟨v4, rfl, rfl⟩
 refine wl_y ?_
 refine wm rfl ?_
 refine wv (r := rv (.pointer (some ⟨b_q, 0, none⟩))) (o_nilcheck rfl) ?_
 refine wv (r := rv (.pointer (some ⟨b_q, 1, none⟩))) (o_fieldAddr Tryz.underlying57 rfl Tryz.sizeOf3 rfl rfl) ?_
 refine wv (r := rI .i64 r1.2.fAt) (o_load (i := 0) Tryz.isAgg3 rfl rfl rfl) ?_
 refine wa rfl ?_
 refine wl_x ?_
 refine wc_seq ?_
 refine wc_block ?_
 obtain ⟨o86, eo87, hK88⟩ := obn_e h2
 refine wc_loop2 (S := Nat × (Int) × (Unit)) (V := (Int) × (Unit)) 0 (fun σ => lop (fun σ => vRInt_b1 r1 σ) σ.1 σ.2.1 = some o86) (fun σ => [(0, rv (.pointer (some ⟨b_q, 0, none⟩))), (2, rB false), (3, rI .i64 q.fAt), (4, rI .i64 r1.2.fAt)]) (fun σ => [.blk b_q [rS r1.2.fS, rI .i64 σ.2.1, rv v4, rB r1.2.fGreat] 57, .row v4 63 4 (List.map eTApiCell r1.2.fCells)]) (fun σ => σ.1) (F, r1.2.fAt, ()) eo87 (Sub.c rfl (Sub.c rfl (Sub.c rfl (Sub.c rfl Sub.nil)))) (sC (sC sN)) (fun σ => vRInt_k1 q r1 σ.1 = some r) (fun σ => [(0, rv (.pointer (some ⟨b_q, 0, none⟩))), (2, rB false), (3, rI .i64 q.fAt), (4, rI .i64 r1.2.fAt)]) (fun σ => [.blk b_q [rS r1.2.fS, rI .i64 σ.1, rv v4, rB r1.2.fGreat] 57, .row v4 63 4 (List.map eTApiCell r1.2.fCells)]) ?_ ?_
 ·rintro ⟨n94, x75, ⟨⟩⟩ hi92
  refine wc_as (l' := [(0, rv (.pointer (some ⟨b_q, 0, none⟩))), (2, rB false), (3, rI .i64 q.fAt), (4, rI .i64 r1.2.fAt)]) (H' := [.blk b_q [rS r1.2.fS, rI .i64 x75, rv v4, rB r1.2.fGreat] 57, .row v4 63 4 (List.map eTApiCell r1.2.fCells)]) rfl rfl ?_
  obtain ⟨m91, rfl, t89, h93, ht90⟩ := lop_e hi92
  replace h93 : vRInt_b1 r1 x75 = some t89 := h93
  unfold vRInt_b1 at h93
  refine wc_seq ?_
  obtain ⟨g95, h96⟩ := chk_e h93
  refine wc_seq_mid [(0, rv (.pointer (some ⟨b_q, 0, none⟩))), (2, rB false), (3, rI .i64 q.fAt), (4, rI .i64 r1.2.fAt), (17, rv (.pointer (some ⟨b_q, 0, none⟩))), (18, rv (.pointer (some ⟨b_q, 0, none⟩))), (19, rv (.pointer (some ⟨b_q, 1, none⟩))), (20, rI .i64 x75), (21, rv (.pointer (some ⟨b_q, 0, none⟩))), (22, rv (.pointer (some ⟨b_q, 0, none⟩))), (23, rv (.pointer (some ⟨b_q, 0, none⟩))), (24, rS r1.2.fS), (25, rI .i64 (r1.2.fS.length : Int)), (26, rB (decide (x75 < (r1.2.fS.length : Int)))), (27, rB (decide (x75 < (r1.2.fS.length : Int)))), (38, rB ((decide (x75 < (r1.2.fS.length : Int))) && (decide (48 ≤ (bat r1.2.fS x75))))), (39, rB ((decide (x75 < (r1.2.fS.length : Int))) && (decide (48 ≤ (bat r1.2.fS x75))))), (50, rB ((decide (x75 < (r1.2.fS.length : Int))) && ((decide (48 ≤ (bat r1.2.fS x75))) && (decide ((bat r1.2.fS x75) ≤ 57)))))] [.blk b_q [rS r1.2.fS, rI .i64 x75, rv v4, rB r1.2.fGreat] 57, .row v4 63 4 (List.map eTApiCell r1.2.fCells)] ?_ ?_
  ·refine bsplit (decide (x75 < (r1.2.fS.length : Int))) (fun c97 => ?_) (fun c97 => ?_)
   ·refine bsplit (decide (48 ≤ (bat r1.2.fS x75))) (fun c98 => ?_) (fun c98 => ?_)
    ·refine wc_rd [⟨[], rv (.pointer (some ⟨b_q, 0, none⟩)), 0⟩, ⟨[0], rv (.pointer (some ⟨b_q, 0, none⟩)), 0⟩, ⟨[1], rv (.pointer (some ⟨b_q, 1, none⟩)), 0⟩, ⟨[2], rI .i64 x75, 1⟩, ⟨[], rv (.pointer (some ⟨b_q, 0, none⟩)), 0⟩, ⟨[4], rv (.pointer (some ⟨b_q, 0, none⟩)), 0⟩, ⟨[5], rv (.pointer (some ⟨b_q, 0, none⟩)), 0⟩, ⟨[6], rS r1.2.fS, 1⟩, ⟨[7], rI .i64 (r1.2.fS.length : Int), 0⟩, ⟨[3, 8], rB (decide (x75 < (r1.2.fS.length : Int))), 0⟩, ⟨[9], rB (decide (x75 < (r1.2.fS.length : Int))), 0⟩, ⟨[10], rv (.pointer (some ⟨b_q, 0, none⟩)), 0⟩, ⟨[11, 10], rv (.pointer (some ⟨b_q, 0, none⟩)), 0⟩, ⟨[12, 10], rv (.pointer (some ⟨b_q, 0, none⟩)), 0⟩, ⟨[13, 10], rS r1.2.fS, 1⟩, ⟨[10], rv (.pointer (some ⟨b_q, 0, none⟩)), 0⟩, ⟨[15, 10], rv (.pointer (some ⟨b_q, 0, none⟩)), 0⟩, ⟨[16, 10], rv (.pointer (some ⟨b_q, 1, none⟩)), 0⟩, ⟨[17, 10], rI .i64 x75, 1⟩, ⟨[14, 18, 10], rI .u8 (bat r1.2.fS x75), 0⟩, ⟨[19, 10], rB (decide (48 ≤ (bat r1.2.fS x75))), 0⟩, ⟨[10, 20], rB (decide (48 ≤ (bat r1.2.fS x75))), 0⟩, ⟨[21], rB (decide (48 ≤ (bat r1.2.fS x75))), 0⟩, ⟨[22], rv (.pointer (some ⟨b_q, 0, none⟩)), 0⟩, ⟨[23, 22], rv (.pointer (some ⟨b_q, 0, none⟩)), 0⟩, ⟨[24, 22], rv (.pointer (some ⟨b_q, 0, none⟩)), 0⟩, ⟨[25, 22], rS r1.2.fS, 1⟩, ⟨[22], rv (.pointer (some ⟨b_q, 0, none⟩)), 0⟩, ⟨[27, 22], rv (.pointer (some ⟨b_q, 0, none⟩)), 0⟩, ⟨[28, 22], rv (.pointer (some ⟨b_q, 1, none⟩)), 0⟩, ⟨[29, 22], rI .i64 x75, 1⟩, ⟨[26, 30, 22], rI .u8 (bat r1.2.fS x75), 0⟩, ⟨[31, 22], rB (decide ((bat r1.2.fS x75) ≤ 57)), 0⟩, ⟨[22, 32], rB (decide ((bat r1.2.fS x75) ≤ 57)), 0⟩] (rle [(35, [.blk b_q [rS r1.2.fS, rI .i64 x75, rv v4, rB r1.2.fGreat] 57, .row v4 63 4 (List.map eTApiCell r1.2.fCells)])]) [(0, rv (.pointer (some ⟨b_q, 0, none⟩))), (2, rB false), (3, rI .i64 q.fAt), (4, rI .i64 r1.2.fAt)] (by kernel_rfl) (by kernel_rfl) (Sub.c rfl (Sub.c rfl (Sub.c rfl (Sub.c rfl Sub.nil)))) rfl rfl ?_ ?_
     ·refine obl_q rfl (fun H => ok_v (o_move rfl)) ?_
      refine obl_q rfl (fun H => ok_v (r := rv (.pointer (some ⟨b_q, 0, none⟩))) (o_nilcheck rfl)) ?_
      refine obl_q rfl (fun H => ok_v (r := rv (.pointer (some ⟨b_q, 1, none⟩))) (o_fieldAddr Tryz.underlying57 rfl Tryz.sizeOf3 rfl rfl)) ?_
      refine obl_f rfl (ok_v (r := rI .i64 x75) (o_load (i := 0) Tryz.isAgg3 rfl rfl rfl)) ?_
      refine obl_q rfl (fun H => ok_v (o_move rfl)) ?_
      refine obl_q rfl (fun H => ok_v (r := rv (.pointer (some ⟨b_q, 0, none⟩))) (o_nilcheck rfl)) ?_
      refine obl_q rfl (fun H => ok_v (r := rv (.pointer (some ⟨b_q, 0, none⟩))) (o_fieldAddr Tryz.underlying57 rfl Tryz.sizeOf9 rfl rfl)) ?_
      refine obl_f rfl (ok_v (r := rS r1.2.fS) (o_load (i := 0) Tryz.isAgg9 rfl rfl rfl)) ?_
      refine obl_q rfl (fun H => ok_v (r := rI .i64 (r1.2.fS.length : Int)) (o_len_s Tryz.underlying9 rfl)) ?_
      refine obl_q rfl (fun H => ok_v (r := rB (decide (x75 < (r1.2.fS.length : Int)))) (o_lt rfl rfl)) ?_
      refine obl_q rfl (fun H => ok_v (o_move rfl)) ?_
      refine obl_q rfl (fun H => ok_on (b := decide (x75 < (r1.2.fS.length : Int))) rfl rfl c97 (ok_v (o_move rfl))) ?_
      refine obl_q rfl (fun H => ok_on (b := decide (x75 < (r1.2.fS.length : Int))) rfl rfl c97 (ok_v (r := rv (.pointer (some ⟨b_q, 0, none⟩))) (o_nilcheck rfl))) ?_
      refine obl_q rfl (fun H => ok_on (b := decide (x75 < (r1.2.fS.length : Int))) rfl rfl c97 (ok_v (r := rv (.pointer (some ⟨b_q, 0, none⟩))) (o_fieldAddr Tryz.underlying57 rfl Tryz.sizeOf9 rfl rfl))) ?_
      refine obl_f rfl (ok_on (b := decide (x75 < (r1.2.fS.length : Int))) rfl rfl c97 (ok_v (r := rS r1.2.fS) (o_load (i := 0) Tryz.isAgg9 rfl rfl rfl))) ?_
      refine obl_q rfl (fun H => ok_on (b := decide (x75 < (r1.2.fS.length : Int))) rfl rfl c97 (ok_v (o_move rfl))) ?_
      refine obl_q rfl (fun H => ok_on (b := decide (x75 < (r1.2.fS.length : Int))) rfl rfl c97 (ok_v (r := rv (.pointer (some ⟨b_q, 0, none⟩))) (o_nilcheck rfl))) ?_
      refine obl_q rfl (fun H => ok_on (b := decide (x75 < (r1.2.fS.length : Int))) rfl rfl c97 (ok_v (r := rv (.pointer (some ⟨b_q, 1, none⟩))) (o_fieldAddr Tryz.underlying57 rfl Tryz.sizeOf3 rfl rfl))) ?_
      refine obl_f rfl (ok_on (b := decide (x75 < (r1.2.fS.length : Int))) rfl rfl c97 (ok_v (r := rI .i64 x75) (o_load (i := 0) Tryz.isAgg3 rfl rfl rfl))) ?_
      refine obl_q rfl (fun H => ok_on (b := decide (x75 < (r1.2.fS.length : Int))) rfl rfl c97 (ok_v (r := rI .u8 (bat r1.2.fS x75)) (o_index_b Tryz.underlying9 rfl rfl (imp_t g95 c97)))) ?_
      refine obl_q rfl (fun H => ok_on (b := decide (x75 < (r1.2.fS.length : Int))) rfl rfl c97 (ok_v (r := rB (decide (48 ≤ (bat r1.2.fS x75)))) (o_ge rfl rfl))) ?_
      refine obl_q rfl (fun H => ok_v (o_pick_t rfl c97 rfl)) ?_
      refine obl_q rfl (fun H => ok_v (o_move rfl)) ?_
      refine obl_q rfl (fun H => ok_on (b := decide (48 ≤ (bat r1.2.fS x75))) rfl rfl c98 (ok_v (o_move rfl))) ?_
      refine obl_q rfl (fun H => ok_on (b := decide (48 ≤ (bat r1.2.fS x75))) rfl rfl c98 (ok_v (r := rv (.pointer (some ⟨b_q, 0, none⟩))) (o_nilcheck rfl))) ?_
      refine obl_q rfl (fun H => ok_on (b := decide (48 ≤ (bat r1.2.fS x75))) rfl rfl c98 (ok_v (r := rv (.pointer (some ⟨b_q, 0, none⟩))) (o_fieldAddr Tryz.underlying57 rfl Tryz.sizeOf9 rfl rfl))) ?_
      refine obl_f rfl (ok_on (b := decide (48 ≤ (bat r1.2.fS x75))) rfl rfl c98 (ok_v (r := rS r1.2.fS) (o_load (i := 0) Tryz.isAgg9 rfl rfl rfl))) ?_
      refine obl_q rfl (fun H => ok_on (b := decide (48 ≤ (bat r1.2.fS x75))) rfl rfl c98 (ok_v (o_move rfl))) ?_
      refine obl_q rfl (fun H => ok_on (b := decide (48 ≤ (bat r1.2.fS x75))) rfl rfl c98 (ok_v (r := rv (.pointer (some ⟨b_q, 0, none⟩))) (o_nilcheck rfl))) ?_
      refine obl_q rfl (fun H => ok_on (b := decide (48 ≤ (bat r1.2.fS x75))) rfl rfl c98 (ok_v (r := rv (.pointer (some ⟨b_q, 1, none⟩))) (o_fieldAddr Tryz.underlying57 rfl Tryz.sizeOf3 rfl rfl))) ?_
      refine obl_f rfl (ok_on (b := decide (48 ≤ (bat r1.2.fS x75))) rfl rfl c98 (ok_v (r := rI .i64 x75) (o_load (i := 0) Tryz.isAgg3 rfl rfl rfl))) ?_
      refine obl_q rfl (fun H => ok_on (b := decide (48 ≤ (bat r1.2.fS x75))) rfl rfl c98 (ok_v (r := rI .u8 (bat r1.2.fS x75)) (o_index_b Tryz.underlying9 rfl rfl (imp_t g95 c97)))) ?_
      refine obl_q rfl (fun H => ok_on (b := decide (48 ≤ (bat r1.2.fS x75))) rfl rfl c98 (ok_v (r := rB (decide ((bat r1.2.fS x75) ≤ 57))) (o_le rfl rfl))) ?_
      refine obl_q rfl (fun H => ok_v (o_pick_t rfl c98 rfl)) ?_
      exact obl_e
     refine wk_as (l' := [(17, rv (.pointer (some ⟨b_q, 0, none⟩))), (18, rv (.pointer (some ⟨b_q, 0, none⟩))), (19, rv (.pointer (some ⟨b_q, 1, none⟩))), (20, rI .i64 x75), (21, rv (.pointer (some ⟨b_q, 0, none⟩))), (22, rv (.pointer (some ⟨b_q, 0, none⟩))), (23, rv (.pointer (some ⟨b_q, 0, none⟩))), (24, rS r1.2.fS), (25, rI .i64 (r1.2.fS.length : Int)), (26, rB (decide (x75 < (r1.2.fS.length : Int)))), (27, rB (decide (x75 < (r1.2.fS.length : Int)))), (28, rv (.pointer (some ⟨b_q, 0, none⟩))), (29, rv (.pointer (some ⟨b_q, 0, none⟩))), (30, rv (.pointer (some ⟨b_q, 0, none⟩))), (31, rS r1.2.fS), (32, rv (.pointer (some ⟨b_q, 0, none⟩))), (33, rv (.pointer (some ⟨b_q, 0, none⟩))), (34, rv (.pointer (some ⟨b_q, 1, none⟩))), (35, rI .i64 x75), (36, rI .u8 (bat r1.2.fS x75)), (37, rB (decide (48 ≤ (bat r1.2.fS x75)))), (38, rB (decide (48 ≤ (bat r1.2.fS x75)))), (39, rB (decide (48 ≤ (bat r1.2.fS x75)))), (40, rv (.pointer (some ⟨b_q, 0, none⟩))), (41, rv (.pointer (some ⟨b_q, 0, none⟩))), (42, rv (.pointer (some ⟨b_q, 0, none⟩))), (43, rS r1.2.fS), (44, rv (.pointer (some ⟨b_q, 0, none⟩))), (45, rv (.pointer (some ⟨b_q, 0, none⟩))), (46, rv (.pointer (some ⟨b_q, 1, none⟩))), (47, rI .i64 x75), (48, rI .u8 (bat r1.2.fS x75)), (49, rB (decide ((bat r1.2.fS x75) ≤ 57))), (50, rB (decide ((bat r1.2.fS x75) ≤ 57))), (0, rv (.pointer (some ⟨b_q, 0, none⟩))), (2, rB false), (3, rI .i64 q.fAt), (4, rI .i64 r1.2.fAt)]) (H' := [.blk b_q [rS r1.2.fS, rI .i64 x75, rv v4, rB r1.2.fGreat] 57, .row v4 63 4 (List.map eTApiCell r1.2.fCells)]) rfl rfl ?_
     exact wk_then (wk_mid (Sub.c5 rfl rfl rfl rfl rfl (Sub.c5 rfl rfl rfl rfl rfl (Sub.c5 rfl rfl rfl rfl rfl (Sub.c (by first | rfl | (simp only [c97, c98]; rfl) | simp [c97, c98]) (Sub.c (by first | rfl | (simp only [c97, c98]; rfl) | simp [c97, c98]) (Sub.c (by first | rfl | (simp only [c97, c98]; rfl) | simp [c97, c98]) Sub.nil)))))) (sC (sC sN)))
    ·refine wc_rd [⟨[], rv (.pointer (some ⟨b_q, 0, none⟩)), 0⟩, ⟨[0], rv (.pointer (some ⟨b_q, 0, none⟩)), 0⟩, ⟨[1], rv (.pointer (some ⟨b_q, 1, none⟩)), 0⟩, ⟨[2], rI .i64 x75, 1⟩, ⟨[], rv (.pointer (some ⟨b_q, 0, none⟩)), 0⟩, ⟨[4], rv (.pointer (some ⟨b_q, 0, none⟩)), 0⟩, ⟨[5], rv (.pointer (some ⟨b_q, 0, none⟩)), 0⟩, ⟨[6], rS r1.2.fS, 1⟩, ⟨[7], rI .i64 (r1.2.fS.length : Int), 0⟩, ⟨[3, 8], rB (decide (x75 < (r1.2.fS.length : Int))), 0⟩, ⟨[9], rB (decide (x75 < (r1.2.fS.length : Int))), 0⟩, ⟨[10], rv (.pointer (some ⟨b_q, 0, none⟩)), 0⟩, ⟨[11, 10], rv (.pointer (some ⟨b_q, 0, none⟩)), 0⟩, ⟨[12, 10], rv (.pointer (some ⟨b_q, 0, none⟩)), 0⟩, ⟨[13, 10], rS r1.2.fS, 1⟩, ⟨[10], rv (.pointer (some ⟨b_q, 0, none⟩)), 0⟩, ⟨[15, 10], rv (.pointer (some ⟨b_q, 0, none⟩)), 0⟩, ⟨[16, 10], rv (.pointer (some ⟨b_q, 1, none⟩)), 0⟩, ⟨[17, 10], rI .i64 x75, 1⟩, ⟨[14, 18, 10], rI .u8 (bat r1.2.fS x75), 0⟩, ⟨[19, 10], rB (decide (48 ≤ (bat r1.2.fS x75))), 0⟩, ⟨[10, 20], rB (decide (48 ≤ (bat r1.2.fS x75))), 0⟩, ⟨[21], rB (decide (48 ≤ (bat r1.2.fS x75))), 0⟩, ⟨[22], rv undef, 0⟩, ⟨[23, 22], rv undef, 0⟩, ⟨[24, 22], rv undef, 0⟩, ⟨[25, 22], rv undef, 0⟩, ⟨[22], rv undef, 0⟩, ⟨[27, 22], rv undef, 0⟩, ⟨[28, 22], rv undef, 0⟩, ⟨[29, 22], rv undef, 0⟩, ⟨[26, 30, 22], rv undef, 0⟩, ⟨[31, 22], rv undef, 0⟩, ⟨[22, 32], rB false, 0⟩] (rle [(35, [.blk b_q [rS r1.2.fS, rI .i64 x75, rv v4, rB r1.2.fGreat] 57, .row v4 63 4 (List.map eTApiCell r1.2.fCells)])]) [(0, rv (.pointer (some ⟨b_q, 0, none⟩))), (2, rB false), (3, rI .i64 q.fAt), (4, rI .i64 r1.2.fAt)] (by kernel_rfl) (by kernel_rfl) (Sub.c rfl (Sub.c rfl (Sub.c rfl (Sub.c rfl Sub.nil)))) rfl rfl ?_ ?_
     ·refine obl_q rfl (fun H => ok_v (o_move rfl)) ?_
      refine obl_q rfl (fun H => ok_v (r := rv (.pointer (some ⟨b_q, 0, none⟩))) (o_nilcheck rfl)) ?_
      refine obl_q rfl (fun H => ok_v (r := rv (.pointer (some ⟨b_q, 1, none⟩))) (o_fieldAddr Tryz.underlying57 rfl Tryz.sizeOf3 rfl rfl)) ?_
      refine obl_f rfl (ok_v (r := rI .i64 x75) (o_load (i := 0) Tryz.isAgg3 rfl rfl rfl)) ?_
      refine obl_q rfl (fun H => ok_v (o_move rfl)) ?_
      refine obl_q rfl (fun H => ok_v (r := rv (.pointer (some ⟨b_q, 0, none⟩))) (o_nilcheck rfl)) ?_
      refine obl_q rfl (fun H => ok_v (r := rv (.pointer (some ⟨b_q, 0, none⟩))) (o_fieldAddr Tryz.underlying57 rfl Tryz.sizeOf9 rfl rfl)) ?_
      refine obl_f rfl (ok_v (r := rS r1.2.fS) (o_load (i := 0) Tryz.isAgg9 rfl rfl rfl)) ?_
      refine obl_q rfl (fun H => ok_v (r := rI .i64 (r1.2.fS.length : Int)) (o_len_s Tryz.underlying9 rfl)) ?_
      refine obl_q rfl (fun H => ok_v (r := rB (decide (x75 < (r1.2.fS.length : Int)))) (o_lt rfl rfl)) ?_
      refine obl_q rfl (fun H => ok_v (o_move rfl)) ?_
      refine obl_q rfl (fun H => ok_on (b := decide (x75 < (r1.2.fS.length : Int))) rfl rfl c97 (ok_v (o_move rfl))) ?_
      refine obl_q rfl (fun H => ok_on (b := decide (x75 < (r1.2.fS.length : Int))) rfl rfl c97 (ok_v (r := rv (.pointer (some ⟨b_q, 0, none⟩))) (o_nilcheck rfl))) ?_
      refine obl_q rfl (fun H => ok_on (b := decide (x75 < (r1.2.fS.length : Int))) rfl rfl c97 (ok_v (r := rv (.pointer (some ⟨b_q, 0, none⟩))) (o_fieldAddr Tryz.underlying57 rfl Tryz.sizeOf9 rfl rfl))) ?_
      refine obl_f rfl (ok_on (b := decide (x75 < (r1.2.fS.length : Int))) rfl rfl c97 (ok_v (r := rS r1.2.fS) (o_load (i := 0) Tryz.isAgg9 rfl rfl rfl))) ?_
      refine obl_q rfl (fun H => ok_on (b := decide (x75 < (r1.2.fS.length : Int))) rfl rfl c97 (ok_v (o_move rfl))) ?_
      refine obl_q rfl (fun H => ok_on (b := decide (x75 < (r1.2.fS.length : Int))) rfl rfl c97 (ok_v (r := rv (.pointer (some ⟨b_q, 0, none⟩))) (o_nilcheck rfl))) ?_
      refine obl_q rfl (fun H => ok_on (b := decide (x75 < (r1.2.fS.length : Int))) rfl rfl c97 (ok_v (r := rv (.pointer (some ⟨b_q, 1, none⟩))) (o_fieldAddr Tryz.underlying57 rfl Tryz.sizeOf3 rfl rfl))) ?_
      refine obl_f rfl (ok_on (b := decide (x75 < (r1.2.fS.length : Int))) rfl rfl c97 (ok_v (r := rI .i64 x75) (o_load (i := 0) Tryz.isAgg3 rfl rfl rfl))) ?_
      refine obl_q rfl (fun H => ok_on (b := decide (x75 < (r1.2.fS.length : Int))) rfl rfl c97 (ok_v (r := rI .u8 (bat r1.2.fS x75)) (o_index_b Tryz.underlying9 rfl rfl (imp_t g95 c97)))) ?_
      refine obl_q rfl (fun H => ok_on (b := decide (x75 < (r1.2.fS.length : Int))) rfl rfl c97 (ok_v (r := rB (decide (48 ≤ (bat r1.2.fS x75)))) (o_ge rfl rfl))) ?_
      refine obl_q rfl (fun H => ok_v (o_pick_t rfl c97 rfl)) ?_
      refine obl_q rfl (fun H => ok_v (o_move rfl)) ?_
      refine obl_q rfl (fun H => ok_off (b := decide (48 ≤ (bat r1.2.fS x75))) rfl rfl c98) ?_
      refine obl_q rfl (fun H => ok_off (b := decide (48 ≤ (bat r1.2.fS x75))) rfl rfl c98) ?_
      refine obl_q rfl (fun H => ok_off (b := decide (48 ≤ (bat r1.2.fS x75))) rfl rfl c98) ?_
      refine obl_q rfl (fun H => ok_off (b := decide (48 ≤ (bat r1.2.fS x75))) rfl rfl c98) ?_
      refine obl_q rfl (fun H => ok_off (b := decide (48 ≤ (bat r1.2.fS x75))) rfl rfl c98) ?_
      refine obl_q rfl (fun H => ok_off (b := decide (48 ≤ (bat r1.2.fS x75))) rfl rfl c98) ?_
      refine obl_q rfl (fun H => ok_off (b := decide (48 ≤ (bat r1.2.fS x75))) rfl rfl c98) ?_
      refine obl_q rfl (fun H => ok_off (b := decide (48 ≤ (bat r1.2.fS x75))) rfl rfl c98) ?_
      refine obl_q rfl (fun H => ok_off (b := decide (48 ≤ (bat r1.2.fS x75))) rfl rfl c98) ?_
      refine obl_q rfl (fun H => ok_off (b := decide (48 ≤ (bat r1.2.fS x75))) rfl rfl c98) ?_
      refine obl_q rfl (fun H => ok_v (r := rB false) (o_pick_f (b := decide (48 ≤ (bat r1.2.fS x75))) rfl c98 rfl)) ?_
      exact obl_e
     refine wk_as (l' := [(17, rv (.pointer (some ⟨b_q, 0, none⟩))), (18, rv (.pointer (some ⟨b_q, 0, none⟩))), (19, rv (.pointer (some ⟨b_q, 1, none⟩))), (20, rI .i64 x75), (21, rv (.pointer (some ⟨b_q, 0, none⟩))), (22, rv (.pointer (some ⟨b_q, 0, none⟩))), (23, rv (.pointer (some ⟨b_q, 0, none⟩))), (24, rS r1.2.fS), (25, rI .i64 (r1.2.fS.length : Int)), (26, rB (decide (x75 < (r1.2.fS.length : Int)))), (27, rB (decide (x75 < (r1.2.fS.length : Int)))), (28, rv (.pointer (some ⟨b_q, 0, none⟩))), (29, rv (.pointer (some ⟨b_q, 0, none⟩))), (30, rv (.pointer (some ⟨b_q, 0, none⟩))), (31, rS r1.2.fS), (32, rv (.pointer (some ⟨b_q, 0, none⟩))), (33, rv (.pointer (some ⟨b_q, 0, none⟩))), (34, rv (.pointer (some ⟨b_q, 1, none⟩))), (35, rI .i64 x75), (36, rI .u8 (bat r1.2.fS x75)), (37, rB (decide (48 ≤ (bat r1.2.fS x75)))), (38, rB (decide (48 ≤ (bat r1.2.fS x75)))), (39, rB (decide (48 ≤ (bat r1.2.fS x75)))), (40, rv undef), (41, rv undef), (42, rv undef), (43, rv undef), (44, rv undef), (45, rv undef), (46, rv undef), (47, rv undef), (48, rv undef), (49, rv undef), (50, rB false), (0, rv (.pointer (some ⟨b_q, 0, none⟩))), (2, rB false), (3, rI .i64 q.fAt), (4, rI .i64 r1.2.fAt)]) (H' := [.blk b_q [rS r1.2.fS, rI .i64 x75, rv v4, rB r1.2.fGreat] 57, .row v4 63 4 (List.map eTApiCell r1.2.fCells)]) rfl rfl ?_
     exact wk_then (wk_mid (Sub.c5 rfl rfl rfl rfl rfl (Sub.c5 rfl rfl rfl rfl rfl (Sub.c5 rfl rfl rfl rfl rfl (Sub.c (by first | rfl | (simp only [c97, c98]; rfl) | simp [c97, c98]) (Sub.c (by first | rfl | (simp only [c97, c98]; rfl) | simp [c97, c98]) (Sub.c (by first | rfl | (simp only [c97, c98]; rfl) | simp [c97, c98]) Sub.nil)))))) (sC (sC sN)))
   ·refine wc_rd [⟨[], rv (.pointer (some ⟨b_q, 0, none⟩)), 0⟩, ⟨[0], rv (.pointer (some ⟨b_q, 0, none⟩)), 0⟩, ⟨[1], rv (.pointer (some ⟨b_q, 1, none⟩)), 0⟩, ⟨[2], rI .i64 x75, 1⟩, ⟨[], rv (.pointer (some ⟨b_q, 0, none⟩)), 0⟩, ⟨[4], rv (.pointer (some ⟨b_q, 0, none⟩)), 0⟩, ⟨[5], rv (.pointer (some ⟨b_q, 0, none⟩)), 0⟩, ⟨[6], rS r1.2.fS, 1⟩, ⟨[7], rI .i64 (r1.2.fS.length : Int), 0⟩, ⟨[3, 8], rB (decide (x75 < (r1.2.fS.length : Int))), 0⟩, ⟨[9], rB (decide (x75 < (r1.2.fS.length : Int))), 0⟩, ⟨[10], rv undef, 0⟩, ⟨[11, 10], rv undef, 0⟩, ⟨[12, 10], rv undef, 0⟩, ⟨[13, 10], rv undef, 0⟩, ⟨[10], rv undef, 0⟩, ⟨[15, 10], rv undef, 0⟩, ⟨[16, 10], rv undef, 0⟩, ⟨[17, 10], rv undef, 0⟩, ⟨[14, 18, 10], rv undef, 0⟩, ⟨[19, 10], rv undef, 0⟩, ⟨[10, 20], rB false, 0⟩, ⟨[21], rB false, 0⟩, ⟨[22], rv undef, 0⟩, ⟨[23, 22], rv undef, 0⟩, ⟨[24, 22], rv undef, 0⟩, ⟨[25, 22], rv undef, 0⟩, ⟨[22], rv undef, 0⟩, ⟨[27, 22], rv undef, 0⟩, ⟨[28, 22], rv undef, 0⟩, ⟨[29, 22], rv undef, 0⟩, ⟨[26, 30, 22], rv undef, 0⟩, ⟨[31, 22], rv undef, 0⟩, ⟨[22, 32], rB false, 0⟩] (rle [(35, [.blk b_q [rS r1.2.fS, rI .i64 x75, rv v4, rB r1.2.fGreat] 57, .row v4 63 4 (List.map eTApiCell r1.2.fCells)])]) [(0, rv (.pointer (some ⟨b_q, 0, none⟩))), (2, rB false), (3, rI .i64 q.fAt), (4, rI .i64 r1.2.fAt)] (by kernel_rfl) (by kernel_rfl) (Sub.c rfl (Sub.c rfl (Sub.c rfl (Sub.c rfl Sub.nil)))) rfl rfl ?_ ?_
    ·refine obl_q rfl (fun H => ok_v (o_move rfl)) ?_
     refine obl_q rfl (fun H => ok_v (r := rv (.pointer (some ⟨b_q, 0, none⟩))) (o_nilcheck rfl)) ?_
     refine obl_q rfl (fun H => ok_v (r := rv (.pointer (some ⟨b_q, 1, none⟩))) (o_fieldAddr Tryz.underlying57 rfl Tryz.sizeOf3 rfl rfl)) ?_
     refine obl_f rfl (ok_v (r := rI .i64 x75) (o_load (i := 0) Tryz.isAgg3 rfl rfl rfl)) ?_
     refine obl_q rfl (fun H => ok_v (o_move rfl)) ?_
     refine obl_q rfl (fun H => ok_v (r := rv (.pointer (some ⟨b_q, 0, none⟩))) (o_nilcheck rfl)) ?_
     refine obl_q rfl (fun H => ok_v (r := rv (.pointer (some ⟨b_q, 0, none⟩))) (o_fieldAddr Tryz.underlying57 rfl Tryz.sizeOf9 rfl rfl)) ?_
     refine obl_f rfl (ok_v (r := rS r1.2.fS) (o_load (i := 0) Tryz.isAgg9 rfl rfl rfl)) ?_
     refine obl_q rfl (fun H => ok_v (r := rI .i64 (r1.2.fS.length : Int)) (o_len_s Tryz.underlying9 rfl)) ?_
     refine obl_q rfl (fun H => ok_v (r := rB (decide (x75 < (r1.2.fS.length : Int)))) (o_lt rfl rfl)) ?_
     refine obl_q rfl (fun H => ok_v (o_move rfl)) ?_
     refine obl_q rfl (fun H => ok_off (b := decide (x75 < (r1.2.fS.length : Int))) rfl rfl c97) ?_
     refine obl_q rfl (fun H => ok_off (b := decide (x75 < (r1.2.fS.length : Int))) rfl rfl c97) ?_
     refine obl_q rfl (fun H => ok_off (b := decide (x75 < (r1.2.fS.length : Int))) rfl rfl c97) ?_
     refine obl_q rfl (fun H => ok_off (b := decide (x75 < (r1.2.fS.length : Int))) rfl rfl c97) ?_
     refine obl_q rfl (fun H => ok_off (b := decide (x75 < (r1.2.fS.length : Int))) rfl rfl c97) ?_
     refine obl_q rfl (fun H => ok_off (b := decide (x75 < (r1.2.fS.length : Int))) rfl rfl c97) ?_
     refine obl_q rfl (fun H => ok_off (b := decide (x75 < (r1.2.fS.length : Int))) rfl rfl c97) ?_
     refine obl_q rfl (fun H => ok_off (b := decide (x75 < (r1.2.fS.length : Int))) rfl rfl c97) ?_
     refine obl_q rfl (fun H => ok_off (b := decide (x75 < (r1.2.fS.length : Int))) rfl rfl c97) ?_
     refine obl_q rfl (fun H => ok_off (b := decide (x75 < (r1.2.fS.length : Int))) rfl rfl c97) ?_
     refine obl_q rfl (fun H => ok_v (r := rB false) (o_pick_f (b := decide (x75 < (r1.2.fS.length : Int))) rfl c97 rfl)) ?_
     refine obl_q rfl (fun H => ok_v (o_move rfl)) ?_
     refine obl_q rfl (fun H => ok_off (b := false) rfl rfl rfl) ?_
     refine obl_q rfl (fun H => ok_off (b := false) rfl rfl rfl) ?_
     refine obl_q rfl (fun H => ok_off (b := false) rfl rfl rfl) ?_
     refine obl_q rfl (fun H => ok_off (b := false) rfl rfl rfl) ?_
     refine obl_q rfl (fun H => ok_off (b := false) rfl rfl rfl) ?_
     refine obl_q rfl (fun H => ok_off (b := false) rfl rfl rfl) ?_
     refine obl_q rfl (fun H => ok_off (b := false) rfl rfl rfl) ?_
     refine obl_q rfl (fun H => ok_off (b := false) rfl rfl rfl) ?_
     refine obl_q rfl (fun H => ok_off (b := false) rfl rfl rfl) ?_
     refine obl_q rfl (fun H => ok_off (b := false) rfl rfl rfl) ?_
     refine obl_q rfl (fun H => ok_v (r := rB false) (o_pick_f (b := false) rfl rfl rfl)) ?_
     exact obl_e
    refine wk_as (l' := [(17, rv (.pointer (some ⟨b_q, 0, none⟩))), (18, rv (.pointer (some ⟨b_q, 0, none⟩))), (19, rv (.pointer (some ⟨b_q, 1, none⟩))), (20, rI .i64 x75), (21, rv (.pointer (some ⟨b_q, 0, none⟩))), (22, rv (.pointer (some ⟨b_q, 0, none⟩))), (23, rv (.pointer (some ⟨b_q, 0, none⟩))), (24, rS r1.2.fS), (25, rI .i64 (r1.2.fS.length : Int)), (26, rB (decide (x75 < (r1.2.fS.length : Int)))), (27, rB (decide (x75 < (r1.2.fS.length : Int)))), (28, rv undef), (29, rv undef), (30, rv undef), (31, rv undef), (32, rv undef), (33, rv undef), (34, rv undef), (35, rv undef), (36, rv undef), (37, rv undef), (38, rB false), (39, rB false), (40, rv undef), (41, rv undef), (42, rv undef), (43, rv undef), (44, rv undef), (45, rv undef), (46, rv undef), (47, rv undef), (48, rv undef), (49, rv undef), (50, rB false), (0, rv (.pointer (some ⟨b_q, 0, none⟩))), (2, rB false), (3, rI .i64 q.fAt), (4, rI .i64 r1.2.fAt)]) (H' := [.blk b_q [rS r1.2.fS, rI .i64 x75, rv v4, rB r1.2.fGreat] 57, .row v4 63 4 (List.map eTApiCell r1.2.fCells)]) rfl rfl ?_
    exact wk_then (wk_mid (Sub.c5 rfl rfl rfl rfl rfl (Sub.c5 rfl rfl rfl rfl rfl (Sub.c5 rfl rfl rfl rfl rfl (Sub.c (by first | rfl | (simp only [c97]; rfl) | simp [c97]) (Sub.c (by first | rfl | (simp only [c97]; rfl) | simp [c97]) (Sub.c (by first | rfl | (simp only [c97]; rfl) | simp [c97]) Sub.nil)))))) (sC (sC sN)))
  refine wc_cond (b := ((decide (x75 < (r1.2.fS.length : Int))) && ((decide (48 ≤ (bat r1.2.fS x75))) && (decide ((bat r1.2.fS x75) ≤ 57))))) rfl (fun c99 => ?_) (fun c99 => ?_)
  ·have h100 := cnd_t c99 h96
   refine wc_skip ?_
   refine wk_x ?_
   refine wc_block ?_
   refine wc_region ?_
   refine wm rfl ?_
   refine wv (r := rv (.pointer (some ⟨b_q, 0, none⟩))) (o_nilcheck rfl) ?_
   refine wv (r := rv (.pointer (some ⟨b_q, 1, none⟩))) (o_fieldAddr Tryz.underlying57 rfl Tryz.sizeOf3 rfl rfl) ?_
   refine wv (r := rI .i64 x75) (o_load (i := 0) Tryz.isAgg3 rfl rfl rfl) ?_
   obtain ⟨g101, h102⟩ := chk_e h100
   refine wv (r := rI .i64 (x75 + 1)) (o_add rfl rfl g101) ?_
   refine wv (r := rv (.pointer (some ⟨b_q, 0, none⟩))) (o_nilcheck rfl) ?_
   refine wv (r := rv (.pointer (some ⟨b_q, 1, none⟩))) (o_fieldAddr Tryz.underlying57 rfl Tryz.sizeOf3 rfl rfl) ?_
   refine u_store (i := 0) Tryz.sizeOf3 rfl rfl (one_c rfl) rfl rfl (cs' := [rS r1.2.fS, rI .i64 (x75 + 1), rv v4, rB r1.2.fGreat]) rfl (H' := [.blk b_q [rS r1.2.fS, rI .i64 (x75 + 1), rv v4, rB r1.2.fGreat] 57, .row v4 63 4 (List.map eTApiCell r1.2.fCells)]) rfl ?_
   refine wl_nil ?_
   refine wk_in_norm ?_
   have h103 := stp_next h102 ht90
   exact wk_then (wk_some (m91, x75 + 1, ()) ⟨h103, Nat.lt_succ_self _⟩ (Sub.c rfl (Sub.c rfl (Sub.c rfl (Sub.c rfl Sub.nil)))) (sC (sC sN)))
  ·have h104 := cnd_f c99 h96
   refine wc_exit ?_
   refine wk_then_exit ?_
   have h105 := stp_go h104 ht90 hK88
   exact wk_then_exit (wk_cut_hit (wk_some (x75, ()) h105 (Sub.c rfl (Sub.c rfl (Sub.c rfl (Sub.c rfl Sub.nil)))) (sC (sC sN))))
 ·rintro ⟨x85, ⟨⟩⟩ h106
  refine wk_as (l' := [(0, rv (.pointer (some ⟨b_q, 0, none⟩))), (2, rB false), (3, rI .i64 q.fAt), (4, rI .i64 r1.2.fAt)]) (H' := [.blk b_q [rS r1.2.fS, rI .i64 x85, rv v4, rB r1.2.fGreat] 57, .row v4 63 4 (List.map eTApiCell r1.2.fCells)]) rfl rfl ?_
  replace h106 : vRInt_k1 q r1 x85 = some r := h106
  unfold vRInt_k1 at h106
  refine wk_in_hit ?_
  refine wk_x ?_
  refine wc_seq ?_
  obtain ⟨g107, h108⟩ := chk_e h106
  obtain ⟨g109, h110⟩ := chk_e h108
  obtain ⟨g111, h112⟩ := chk_e h110
  refine wc_rd [⟨[], rv (.pointer (some ⟨b_q, 0, none⟩)), 0⟩, ⟨[0], rv (.pointer (some ⟨b_q, 0, none⟩)), 0⟩, ⟨[1], rv (.pointer (some ⟨b_q, 0, none⟩)), 0⟩, ⟨[2], rS r1.2.fS, 1⟩, ⟨[], rI .i64 q.fAt, 0⟩, ⟨[], rv (.pointer (some ⟨b_q, 0, none⟩)), 0⟩, ⟨[5], rv (.pointer (some ⟨b_q, 0, none⟩)), 0⟩, ⟨[6], rv (.pointer (some ⟨b_q, 1, none⟩)), 0⟩, ⟨[7], rI .i64 x85, 1⟩, ⟨[3, 4, 8], rS (List.take (Int.toNat x85 - Int.toNat q.fAt) (List.drop (Int.toNat q.fAt) r1.2.fS)), 0⟩, ⟨[9], rTup [rI .i64 (parseV (List.take (Int.toNat x85 - Int.toNat q.fAt) (List.drop (Int.toNat q.fAt) r1.2.fS))), rI .i64 (parseE (List.take (Int.toNat x85 - Int.toNat q.fAt) (List.drop (Int.toNat q.fAt) r1.2.fS)))], 0⟩, ⟨[10], rTup [rI .i64 (parseV (List.take (Int.toNat x85 - Int.toNat q.fAt) (List.drop (Int.toNat q.fAt) r1.2.fS))), rI .i64 (parseE (List.take (Int.toNat x85 - Int.toNat q.fAt) (List.drop (Int.toNat q.fAt) r1.2.fS)))], 0⟩, ⟨[11], rI .i64 (parseV (List.take (Int.toNat x85 - Int.toNat q.fAt) (List.drop (Int.toNat q.fAt) r1.2.fS))), 0⟩, ⟨[11], rI .i64 (parseE (List.take (Int.toNat x85 - Int.toNat q.fAt) (List.drop (Int.toNat q.fAt) r1.2.fS))), 0⟩, ⟨[12], rI .i64 (parseV (List.take (Int.toNat x85 - Int.toNat q.fAt) (List.drop (Int.toNat q.fAt) r1.2.fS))), 0⟩, ⟨[13], rI .i64 (parseE (List.take (Int.toNat x85 - Int.toNat q.fAt) (List.drop (Int.toNat q.fAt) r1.2.fS))), 0⟩] (rle [(17, [.blk b_q [rS r1.2.fS, rI .i64 x85, rv v4, rB r1.2.fGreat] 57, .row v4 63 4 (List.map eTApiCell r1.2.fCells)])]) [(0, rv (.pointer (some ⟨b_q, 0, none⟩))), (2, rB false), (3, rI .i64 q.fAt), (4, rI .i64 r1.2.fAt)] (by kernel_rfl) (by kernel_rfl) (Sub.c rfl (Sub.c rfl (Sub.c rfl (Sub.c rfl Sub.nil)))) rfl rfl ?_ ?_
  ·refine obl_q rfl (fun H => ok_v (o_move rfl)) ?_
   refine obl_q rfl (fun H => ok_v (r := rv (.pointer (some ⟨b_q, 0, none⟩))) (o_nilcheck rfl)) ?_
   refine obl_q rfl (fun H => ok_v (r := rv (.pointer (some ⟨b_q, 0, none⟩))) (o_fieldAddr Tryz.underlying57 rfl Tryz.sizeOf9 rfl rfl)) ?_
   refine obl_f rfl (ok_v (r := rS r1.2.fS) (o_load (i := 0) Tryz.isAgg9 rfl rfl rfl)) ?_
   refine obl_q rfl (fun H => ok_v (o_move rfl)) ?_
   refine obl_q rfl (fun H => ok_v (o_move rfl)) ?_
   refine obl_q rfl (fun H => ok_v (r := rv (.pointer (some ⟨b_q, 0, none⟩))) (o_nilcheck rfl)) ?_
   refine obl_q rfl (fun H => ok_v (r := rv (.pointer (some ⟨b_q, 1, none⟩))) (o_fieldAddr Tryz.underlying57 rfl Tryz.sizeOf3 rfl rfl)) ?_
   refine obl_f rfl (ok_v (r := rI .i64 x85) (o_load (i := 0) Tryz.isAgg3 rfl rfl rfl)) ?_
   refine obl_q rfl (fun H => ok_v (r := rS (List.take (Int.toNat x85 - Int.toNat q.fAt) (List.drop (Int.toNat q.fAt) r1.2.fS))) (o_slice_lh Tryz.underlying9 rfl rfl rfl g107 g109)) ?_
   refine obl_q rfl (fun H => ok_call0 (rs := [rS (List.take (Int.toNat x85 - Int.toNat q.fAt) (List.drop (Int.toNat q.fAt) r1.2.fS))]) (r := rTup [rI .i64 (parseV (List.take (Int.toNat x85 - Int.toNat q.fAt) (List.drop (Int.toNat q.fAt) r1.2.fS))), rI .i64 (parseE (List.take (Int.toNat x85 - Int.toNat q.fAt) (List.drop (Int.toNat q.fAt) r1.2.fS)))]) Tryz.call104 rfl (parse_q (List.take (Int.toNat x85 - Int.toNat q.fAt) (List.drop (Int.toNat q.fAt) r1.2.fS)) g111) rfl) ?_
   refine obl_q rfl (fun H => ok_v (o_move rfl)) ?_
   refine obl_q rfl (fun H => ok_v (r := rI .i64 (parseV (List.take (Int.toNat x85 - Int.toNat q.fAt) (List.drop (Int.toNat q.fAt) r1.2.fS)))) (o_extract rfl rfl)) ?_
   refine obl_q rfl (fun H => ok_v (r := rI .i64 (parseE (List.take (Int.toNat x85 - Int.toNat q.fAt) (List.drop (Int.toNat q.fAt) r1.2.fS)))) (o_extract rfl rfl)) ?_
   refine obl_q rfl (fun H => ok_v (o_assign rfl)) ?_
   refine obl_q rfl (fun H => ok_v (o_assign rfl)) ?_
   exact obl_e
  refine wk_as (l' := [(59, rv (.pointer (some ⟨b_q, 0, none⟩))), (60, rv (.pointer (some ⟨b_q, 0, none⟩))), (61, rv (.pointer (some ⟨b_q, 0, none⟩))), (62, rS r1.2.fS), (63, rI .i64 q.fAt), (64, rv (.pointer (some ⟨b_q, 0, none⟩))), (65, rv (.pointer (some ⟨b_q, 0, none⟩))), (66, rv (.pointer (some ⟨b_q, 1, none⟩))), (67, rI .i64 x85), (68, rS (List.take (Int.toNat x85 - Int.toNat q.fAt) (List.drop (Int.toNat q.fAt) r1.2.fS))), (69, rTup [rI .i64 (parseV (List.take (Int.toNat x85 - Int.toNat q.fAt) (List.drop (Int.toNat q.fAt) r1.2.fS))), rI .i64 (parseE (List.take (Int.toNat x85 - Int.toNat q.fAt) (List.drop (Int.toNat q.fAt) r1.2.fS)))]), (58, rTup [rI .i64 (parseV (List.take (Int.toNat x85 - Int.toNat q.fAt) (List.drop (Int.toNat q.fAt) r1.2.fS))), rI .i64 (parseE (List.take (Int.toNat x85 - Int.toNat q.fAt) (List.drop (Int.toNat q.fAt) r1.2.fS)))]), (70, rI .i64 (parseV (List.take (Int.toNat x85 - Int.toNat q.fAt) (List.drop (Int.toNat q.fAt) r1.2.fS)))), (71, rI .i64 (parseE (List.take (Int.toNat x85 - Int.toNat q.fAt) (List.drop (Int.toNat q.fAt) r1.2.fS)))), (5, rI .i64 (parseV (List.take (Int.toNat x85 - Int.toNat q.fAt) (List.drop (Int.toNat q.fAt) r1.2.fS)))), (6, rI .i64 (parseE (List.take (Int.toNat x85 - Int.toNat q.fAt) (List.drop (Int.toNat q.fAt) r1.2.fS)))), (0, rv (.pointer (some ⟨b_q, 0, none⟩))), (2, rB false), (3, rI .i64 q.fAt), (4, rI .i64 r1.2.fAt)]) (H' := [.blk b_q [rS r1.2.fS, rI .i64 x85, rv v4, rB r1.2.fGreat] 57, .row v4 63 4 (List.map eTApiCell r1.2.fCells)]) rfl rfl ?_
  refine wk_x ?_
  refine wc_seq ?_
  refine wc_seq_mid [(0, rv (.pointer (some ⟨b_q, 0, none⟩))), (2, rB false), (5, rI .i64 (parseV (List.take (Int.toNat x85 - Int.toNat q.fAt) (List.drop (Int.toNat q.fAt) r1.2.fS)))), (6, rI .i64 (parseE (List.take (Int.toNat x85 - Int.toNat q.fAt) (List.drop (Int.toNat q.fAt) r1.2.fS)))), (81, rB ((decide ((parseE (List.take (Int.toNat x85 - Int.toNat q.fAt) (List.drop (Int.toNat q.fAt) r1.2.fS))) = 1)) || (decide (r1.2.fAt = x85))))] [.blk b_q [rS r1.2.fS, rI .i64 x85, rv v4, rB r1.2.fGreat] 57, .row v4 63 4 (List.map eTApiCell r1.2.fCells)] ?_ ?_
  ·refine wc_region ?_
   refine wm rfl ?_
   refine wv (r := rB (decide ((parseE (List.take (Int.toNat x85 - Int.toNat q.fAt) (List.drop (Int.toNat q.fAt) r1.2.fS))) = 1))) (o_eq rfl rfl) ?_
   refine wm rfl ?_
   refine bsplit (decide ((parseE (List.take (Int.toNat x85 - Int.toNat q.fAt) (List.drop (Int.toNat q.fAt) r1.2.fS))) = 1)) (fun c113 => ?_) (fun c113 => ?_)
   ·refine wl_off rfl rfl c113 rfl ?_
    refine wl_off rfl rfl c113 rfl ?_
    refine wl_off rfl rfl c113 rfl ?_
    refine wl_off rfl rfl c113 rfl ?_
    refine wl_off rfl rfl c113 rfl ?_
    refine wl_off rfl rfl c113 rfl ?_
    refine wv (r := rB true) (o_pick_t (b := decide ((parseE (List.take (Int.toNat x85 - Int.toNat q.fAt) (List.drop (Int.toNat q.fAt) r1.2.fS))) = 1)) rfl c113 rfl) ?_
    refine wl_nil ?_
    exact wk_then (wk_mid (Sub.c rfl (Sub.c rfl (Sub.c rfl (Sub.c rfl (Sub.c (by first | rfl | (simp only [c113]; rfl) | simp [c113]) Sub.nil))))) (sC (sC sN)))
   ·refine wl_on rfl rfl c113 ?_
    refine wm rfl ?_
    refine wl_on rfl rfl c113 ?_
    refine wm rfl ?_
    refine wl_on rfl rfl c113 ?_
    refine wv (r := rv (.pointer (some ⟨b_q, 0, none⟩))) (o_nilcheck rfl) ?_
    refine wl_on rfl rfl c113 ?_
    refine wv (r := rv (.pointer (some ⟨b_q, 1, none⟩))) (o_fieldAddr Tryz.underlying57 rfl Tryz.sizeOf3 rfl rfl) ?_
    refine wl_on rfl rfl c113 ?_
    refine wv (r := rI .i64 x85) (o_load (i := 0) Tryz.isAgg3 rfl rfl rfl) ?_
    refine wl_on rfl rfl c113 ?_
    refine wv (r := rB (decide (r1.2.fAt = x85))) (o_eq rfl rfl) ?_
    refine wpf rfl c113 rfl ?_
    refine wl_nil ?_
    exact wk_then (wk_mid (Sub.c rfl (Sub.c rfl (Sub.c rfl (Sub.c rfl (Sub.c (by first | rfl | (simp only [c113]; rfl) | simp [c113]) Sub.nil))))) (sC (sC sN)))
  refine wc_cond (b := ((decide ((parseE (List.take (Int.toNat x85 - Int.toNat q.fAt) (List.drop (Int.toNat q.fAt) r1.2.fS))) = 1)) || (decide (r1.2.fAt = x85)))) rfl (fun c114 => ?_) (fun c114 => ?_)
  ·have h115 := cnd_t c114 h112
   refine wc_sr ?_
   refine wv (r := rB false) (o_assign rfl) ?_
   refine wl_x ?_
   refine wc_ret ?_
   refine wk_then_ret ?_
   obtain rfl := some_e h115
   exact wk_ret (r_1 Tryz.results95 (rv_t rfl)) (sC (sC sN)) ⟨v4, rfl, rfl⟩
  ·have h116 := cnd_f c114 h112
   refine wc_skip ?_
   refine wk_x ?_
   refine wc_seq_mid [(0, rv (.pointer (some ⟨b_q, 0, none⟩))), (2, rB false), (5, rI .i64 (parseV (List.take (Int.toNat x85 - Int.toNat q.fAt) (List.drop (Int.toNat q.fAt) r1.2.fS))))] [.blk b_q [rS r1.2.fS, rI .i64 x85, rv v4, rB (r1.2.fGreat || (!decide ((parseE (List.take (Int.toNat x85 - Int.toNat q.fAt) (List.drop (Int.toNat q.fAt) r1.2.fS))) = 0)))] 57, .row v4 63 4 (List.map eTApiCell r1.2.fCells)] ?_ ?_
   ·refine wc_region ?_
    refine wm rfl ?_
    refine wm rfl ?_
    refine wv (r := rv (.pointer (some ⟨b_q, 0, none⟩))) (o_nilcheck rfl) ?_
    refine wv (r := rv (.pointer (some ⟨b_q, 3, none⟩))) (o_fieldAddr Tryz.underlying57 rfl Tryz.sizeOf4 rfl rfl) ?_
    refine wv (r := rB r1.2.fGreat) (o_load (i := 0) Tryz.isAgg4 rfl rfl rfl) ?_
    refine wm rfl ?_
    refine bsplit (r1.2.fGreat) (fun c117 => ?_) (fun c117 => ?_)
    ·refine wl_off rfl rfl c117 rfl ?_
     refine wl_off rfl rfl c117 rfl ?_
     refine wv (r := rB true) (o_pick_t (b := r1.2.fGreat) rfl c117 rfl) ?_
     refine wv (r := rv (.pointer (some ⟨b_q, 0, none⟩))) (o_nilcheck rfl) ?_
     refine wv (r := rv (.pointer (some ⟨b_q, 3, none⟩))) (o_fieldAddr Tryz.underlying57 rfl Tryz.sizeOf4 rfl rfl) ?_
     refine u_store (i := 0) Tryz.sizeOf4 rfl rfl (one_c rfl) rfl rfl (cs' := [rS r1.2.fS, rI .i64 x85, rv v4, rB true]) rfl (H' := [.blk b_q [rS r1.2.fS, rI .i64 x85, rv v4, rB true] 57, .row v4 63 4 (List.map eTApiCell r1.2.fCells)]) rfl ?_
     refine wl_nil ?_
     refine wk_asH (H' := [.blk b_q [rS r1.2.fS, rI .i64 x85, rv v4, rB (r1.2.fGreat || (!decide ((parseE (List.take (Int.toNat x85 - Int.toNat q.fAt) (List.drop (Int.toNat q.fAt) r1.2.fS))) = 0)))] 57, .row v4 63 4 (List.map eTApiCell r1.2.fCells)]) (by simp only [c117, Bool.true_and, Bool.false_and, Bool.true_or, Bool.false_or, Bool.and_true, Bool.and_false, Bool.or_true, Bool.or_false, Bool.not_true, Bool.not_false, cond_true, cond_false]) ?_
     exact wk_then (wk_mid (Sub.c rfl (Sub.c rfl (Sub.c rfl Sub.nil))) (sC (sC sN)))
    ·refine wl_on rfl rfl c117 ?_
     refine wm rfl ?_
     refine wl_on rfl rfl c117 ?_
     refine wv (r := rB (!decide ((parseE (List.take (Int.toNat x85 - Int.toNat q.fAt) (List.drop (Int.toNat q.fAt) r1.2.fS))) = 0))) (o_ne rfl rfl) ?_
     refine wpf rfl c117 rfl ?_
     refine wv (r := rv (.pointer (some ⟨b_q, 0, none⟩))) (o_nilcheck rfl) ?_
     refine wv (r := rv (.pointer (some ⟨b_q, 3, none⟩))) (o_fieldAddr Tryz.underlying57 rfl Tryz.sizeOf4 rfl rfl) ?_
     refine u_store (i := 0) Tryz.sizeOf4 rfl rfl (one_c rfl) rfl rfl (cs' := [rS r1.2.fS, rI .i64 x85, rv v4, rB (!decide ((parseE (List.take (Int.toNat x85 - Int.toNat q.fAt) (List.drop (Int.toNat q.fAt) r1.2.fS))) = 0))]) rfl (H' := [.blk b_q [rS r1.2.fS, rI .i64 x85, rv v4, rB (!decide ((parseE (List.take (Int.toNat x85 - Int.toNat q.fAt) (List.drop (Int.toNat q.fAt) r1.2.fS))) = 0))] 57, .row v4 63 4 (List.map eTApiCell r1.2.fCells)]) rfl ?_
     refine wl_nil ?_
     refine wk_asH (H' := [.blk b_q [rS r1.2.fS, rI .i64 x85, rv v4, rB (r1.2.fGreat || (!decide ((parseE (List.take (Int.toNat x85 - Int.toNat q.fAt) (List.drop (Int.toNat q.fAt) r1.2.fS))) = 0)))] 57, .row v4 63 4 (List.map eTApiCell r1.2.fCells)]) (by simp only [c117, Bool.true_and, Bool.false_and, Bool.true_or, Bool.false_or, Bool.and_true, Bool.and_false, Bool.or_true, Bool.or_false, Bool.not_true, Bool.not_false, cond_true, cond_false]) ?_
     exact wk_then (wk_mid (Sub.c rfl (Sub.c rfl (Sub.c rfl Sub.nil))) (sC (sC sN)))
   refine wc_sr ?_
   refine wm rfl ?_
   refine wm rfl ?_
   refine wv (r := rv (.pointer (some ⟨b_q, 0, none⟩))) (o_nilcheck rfl) ?_
   refine wv (r := rv (.pointer (some ⟨b_q, 2, none⟩))) (o_fieldAddr Tryz.underlying57 rfl Tryz.sizeOf23 rfl rfl) ?_
   refine wv (r := rv v4) (o_load (i := 0) Tryz.isAgg23 rfl rfl rfl) ?_
   refine wm rfl ?_
   refine wv (r := rAgg [rI .i64 3, rI .i64 (parseV (List.take (Int.toNat x85 - Int.toNat q.fAt) (List.drop (Int.toNat q.fAt) r1.2.fS))), rS ([] : Str), rI .i64 0]) (o_build63_0_1 rfl rfl rfl rfl) ?_
   refine w_buildSlice (ys := ([(TApiCell.mk 3 (parseV (List.take (Int.toNat x85 - Int.toNat q.fAt) (List.drop (Int.toNat q.fAt) r1.2.fS))) ([] : Str) 0)] : List TApiCell)) (enc := eTApiCell) (css := [[rI .i64 3, rI .i64 (parseV (List.take (Int.toNat x85 - Int.toNat q.fAt) (List.drop (Int.toNat q.fAt) r1.2.fS))), rS ([] : Str), rI .i64 0]]) (xs := [.tmp 99]) Tryz.underlying23 Tryz.sizeOf63 Tryz.zeroValue63 rfl rfl rfl ⟨Cel.agg ⟨Up.refl _, Up.refl _, Up.refl _, Up.refl _, trivial⟩, trivial⟩ rfl eTApiCell_len rfl rfl rfl (fun b118 => ?_)
   obtain ⟨g120, h121⟩ := chk_e h116
   obtain ⟨inf, hinf⟩ := info63
   refine w_append (xs := r1.2.fCells) (ys := ([(TApiCell.mk 3 (parseV (List.take (Int.toNat x85 - Int.toNat q.fAt) (List.drop (Int.toNat q.fAt) r1.2.fS))) ([] : Str) 0)] : List TApiCell)) (enc := eTApiCell) (i := 2) Tryz.underlying23 hinf.1 hinf.2.1 hinf.2.2.1 hinf.2.2.2 rfl rfl rfl rfl rfl (Src.w (i := 0) rfl rfl) eTApiCell_len eTApiCell_one g120 rfl (fun v119 => ?_)
   refine wv (r := rv (.pointer (some ⟨b_q, 0, none⟩))) (o_nilcheck rfl) ?_
   refine wv (r := rv (.pointer (some ⟨b_q, 2, none⟩))) (o_fieldAddr Tryz.underlying57 rfl Tryz.sizeOf23 rfl rfl) ?_
   refine u_store (i := 2) Tryz.sizeOf23 rfl rfl (one_row (i := 0) rfl) rfl rfl (cs' := [rS r1.2.fS, rI .i64 x85, rv v119, rB (r1.2.fGreat || (!decide ((parseE (List.take (Int.toNat x85 - Int.toNat q.fAt) (List.drop (Int.toNat q.fAt) r1.2.fS))) = 0)))]) rfl (H' := [.row v119 63 4 (List.map eTApiCell (r1.2.fCells ++ ([(TApiCell.mk 3 (parseV (List.take (Int.toNat x85 - Int.toNat q.fAt) (List.drop (Int.toNat q.fAt) r1.2.fS))) ([] : Str) 0)] : List TApiCell))), .row (.slice (some ⟨b118, 0, none⟩) 1 1) 63 4 (List.map eTApiCell ([(TApiCell.mk 3 (parseV (List.take (Int.toNat x85 - Int.toNat q.fAt) (List.drop (Int.toNat q.fAt) r1.2.fS))) ([] : Str) 0)] : List TApiCell)), .blk b_q [rS r1.2.fS, rI .i64 x85, rv v119, rB (r1.2.fGreat || (!decide ((parseE (List.take (Int.toNat x85 - Int.toNat q.fAt) (List.drop (Int.toNat q.fAt) r1.2.fS))) = 0)))] 57]) rfl ?_
   refine wl_y ?_
   refine wv (r := rB true) (o_assign rfl) ?_
   refine wl_x ?_
   refine wc_ret ?_
   refine wk_perm (H2 := [.blk b_q [rS r1.2.fS, rI .i64 x85, rv v119, rB (r1.2.fGreat || (!decide ((parseE (List.take (Int.toNat x85 - Int.toNat q.fAt) (List.drop (Int.toNat q.fAt) r1.2.fS))) = 0)))] 57, .row v119 63 4 (List.map eTApiCell (r1.2.fCells ++ ([(TApiCell.mk 3 (parseV (List.take (Int.toNat x85 - Int.toNat q.fAt) (List.drop (Int.toNat q.fAt) r1.2.fS))) ([] : Str) 0)] : List TApiCell))), .row (.slice (some ⟨b118, 0, none⟩) 1 1) 63 4 (List.map eTApiCell ([(TApiCell.mk 3 (parseV (List.take (Int.toNat x85 - Int.toNat q.fAt) (List.drop (Int.toNat q.fAt) r1.2.fS))) ([] : Str) 0)] : List TApiCell))]) ((perm_front (i := 2) rfl).trans (List.Perm.cons _ (List.Perm.refl _))) ?_
   obtain rfl := some_e h121
   exact wk_ret (r_1 Tryz.results95 (rv_t rfl)) (sC (sC (sS sN))) ⟨v119, rfl, rfl⟩

theorem vRScalar_w (F : Nat) (b_q : Nat) (v_q_2 : Value) (q : TValueReader) (r : Bool × TValueReader) (h : vRScalar F q = some r) : Fn Tryz.prog GE 65 [rv (.pointer (some ⟨b_q, 0, none⟩))] [.blk b_q [rS q.fS, rI .i64 q.fAt, rv v_q_2, rB q.fGreat] 57, .row v_q_2 63 4 (List.map eTApiCell q.fCells)] (fun R H => ∃ w0_2 : Value, R = rB r.1 ∧ H = [.blk b_q [rS r.2.fS, rI .i64 r.2.fAt, rv w0_2, rB r.2.fGreat] 57, .row w0_2 63 4 (List.map eTApiCell r.2.fCells)]) := by
 refine enter (n := 75) Tryz.func65 rfl Tryz.ntmps65 rfl (fun w Z => ?_)
 refine wc_as (l' := [(0, rv (.pointer (some ⟨b_q, 0, none⟩)))]) (H' := [.blk b_q [rS q.fS, rI .i64 q.fAt, rv v_q_2, rB q.fGreat] 57, .row v_q_2 63 4 (List.map eTApiCell q.fCells)]) rfl rfl ?_
 unfold vRScalar at h
 refine wc_sr ?_
 refine wv (r := rB false) (o_assign rfl) ?_
 refine wl_x ?_
 refine wc_seq_cut (S := (Str × Int × (List TApiCell) × Bool) × (Value)) (fun σ => vRScalar_j1 σ.1.1 σ.1.2.1 σ.1.2.2.1 σ.1.2.2.2 = some r) (fun σ => [(2, rB false)]) (fun σ => [.blk b_q [rS σ.1.1, rI .i64 σ.1.2.1, rv σ.2, rB σ.1.2.2.2] 57, .row σ.2 63 4 (List.map eTApiCell σ.1.2.2.1)]) ?_ ?_
 ·refine wc_block ?_
  refine wc_sr ?_
  refine wm rfl ?_
  obtain ⟨r62, e64, h63⟩ := obn_e h
  refine wcl (Hr := []) Tryz.call64 (vTake_w b_q v_q_2 q ([110, 117, 108, 108] : Str) r62 e64) rfl (List.Perm.refl _) rfl ?_
  rintro _ _ ⟨v65, rfl, rfl⟩
  refine wa rfl ?_
  refine wl_x ?_
  refine wc_cond (b := r62.1) rfl (fun c66 => ?_) (fun c66 => ?_)
  ·have h67 := cnd_t c66 h63
   refine wc_region ?_
   refine wm rfl ?_
   refine wm rfl ?_
   refine wv (r := rv (.pointer (some ⟨b_q, 0, none⟩))) (o_nilcheck rfl) ?_
   refine wv (r := rv (.pointer (some ⟨b_q, 2, none⟩))) (o_fieldAddr Tryz.underlying57 rfl Tryz.sizeOf23 rfl rfl) ?_
   refine wv (r := rv v65) (o_load (i := 0) Tryz.isAgg23 rfl rfl rfl) ?_
   refine wv (r := rAgg [rI .i64 1, rI .i64 0, rS ([] : Str), rI .i64 0]) (o_build63_0 rfl rfl) ?_
   refine w_buildSlice (ys := ([(TApiCell.mk 1 0 ([] : Str) 0)] : List TApiCell)) (enc := eTApiCell) (css := [[rI .i64 1, rI .i64 0, rS ([] : Str), rI .i64 0]]) (xs := [.tmp 15]) Tryz.underlying23 Tryz.sizeOf63 Tryz.zeroValue63 rfl rfl rfl ⟨Cel.agg ⟨Up.refl _, Up.refl _, Up.refl _, Up.refl _, trivial⟩, trivial⟩ rfl eTApiCell_len rfl rfl rfl (fun b68 => ?_)
   obtain ⟨g70, h71⟩ := chk_e h67
   obtain ⟨inf, hinf⟩ := info63
   refine w_append (xs := r62.2.fCells) (ys := ([(TApiCell.mk 1 0 ([] : Str) 0)] : List TApiCell)) (enc := eTApiCell) (i := 2) Tryz.underlying23 hinf.1 hinf.2.1 hinf.2.2.1 hinf.2.2.2 rfl rfl rfl rfl rfl (Src.w (i := 0) rfl rfl) eTApiCell_len eTApiCell_one g70 rfl (fun v69 => ?_)
   refine wv (r := rv (.pointer (some ⟨b_q, 0, none⟩))) (o_nilcheck rfl) ?_
   refine wv (r := rv (.pointer (some ⟨b_q, 2, none⟩))) (o_fieldAddr Tryz.underlying57 rfl Tryz.sizeOf23 rfl rfl) ?_
   refine u_store (i := 2) Tryz.sizeOf23 rfl rfl (one_row (i := 0) rfl) rfl rfl (cs' := [rS r62.2.fS, rI .i64 r62.2.fAt, rv v69, rB r62.2.fGreat]) rfl (H' := [.row v69 63 4 (List.map eTApiCell (r62.2.fCells ++ ([(TApiCell.mk 1 0 ([] : Str) 0)] : List TApiCell))), .row (.slice (some ⟨b68, 0, none⟩) 1 1) 63 4 (List.map eTApiCell ([(TApiCell.mk 1 0 ([] : Str) 0)] : List TApiCell)), .blk b_q [rS r62.2.fS, rI .i64 r62.2.fAt, rv v69, rB r62.2.fGreat] 57]) rfl ?_
   refine wl_nil ?_
   refine wk_in_norm ?_
   refine wk_perm (H2 := [.blk b_q [rS r62.2.fS, rI .i64 r62.2.fAt, rv v69, rB r62.2.fGreat] 57, .row v69 63 4 (List.map eTApiCell (r62.2.fCells ++ ([(TApiCell.mk 1 0 ([] : Str) 0)] : List TApiCell))), .row (.slice (some ⟨b68, 0, none⟩) 1 1) 63 4 (List.map eTApiCell ([(TApiCell.mk 1 0 ([] : Str) 0)] : List TApiCell))]) ((perm_front (i := 2) rfl).trans (List.Perm.cons _ (List.Perm.refl _))) ?_
   exact wk_then (wk_some ((r62.2.fS, r62.2.fAt, r62.2.fCells ++ ([(TApiCell.mk 1 0 ([] : Str) 0)] : List TApiCell), r62.2.fGreat), v69) h71 (Sub.c rfl Sub.nil) (sC (sC (sS sN))))
  ·have h72 := cnd_f c66 h63
   refine wc_sr ?_
   refine wm rfl ?_
   obtain ⟨r73, e75, h74⟩ := obn_e h72
   refine wcl (Hr := []) Tryz.call64 (vTake_w b_q v65 r62.2 ([116, 114, 117, 101] : Str) r73 e75) rfl (List.Perm.refl _) rfl ?_
   rintro _ _ ⟨v76, rfl, rfl⟩
   refine wa rfl ?_
   refine wl_x ?_
   refine wc_cond (b := r73.1) rfl (fun c77 => ?_) (fun c77 => ?_)
   ·have h78 := cnd_t c77 h74
    refine wc_region ?_
    refine wm rfl ?_
    refine wm rfl ?_
    refine wv (r := rv (.pointer (some ⟨b_q, 0, none⟩))) (o_nilcheck rfl) ?_
    refine wv (r := rv (.pointer (some ⟨b_q, 2, none⟩))) (o_fieldAddr Tryz.underlying57 rfl Tryz.sizeOf23 rfl rfl) ?_
    refine wv (r := rv v76) (o_load (i := 0) Tryz.isAgg23 rfl rfl rfl) ?_
    refine wv (r := rAgg [rI .i64 2, rI .i64 1, rS ([] : Str), rI .i64 0]) (o_build63_0_1 rfl rfl rfl rfl) ?_
    refine w_buildSlice (ys := ([(TApiCell.mk 2 1 ([] : Str) 0)] : List TApiCell)) (enc := eTApiCell) (css := [[rI .i64 2, rI .i64 1, rS ([] : Str), rI .i64 0]]) (xs := [.tmp 28]) Tryz.underlying23 Tryz.sizeOf63 Tryz.zeroValue63 rfl rfl rfl ⟨Cel.agg ⟨Up.refl _, Up.refl _, Up.refl _, Up.refl _, trivial⟩, trivial⟩ rfl eTApiCell_len rfl rfl rfl (fun b79 => ?_)
    obtain ⟨g81, h82⟩ := chk_e h78
    obtain ⟨inf, hinf⟩ := info63
    refine w_append (xs := r73.2.fCells) (ys := ([(TApiCell.mk 2 1 ([] : Str) 0)] : List TApiCell)) (enc := eTApiCell) (i := 2) Tryz.underlying23 hinf.1 hinf.2.1 hinf.2.2.1 hinf.2.2.2 rfl rfl rfl rfl rfl (Src.w (i := 0) rfl rfl) eTApiCell_len eTApiCell_one g81 rfl (fun v80 => ?_)
    refine wv (r := rv (.pointer (some ⟨b_q, 0, none⟩))) (o_nilcheck rfl) ?_
    refine wv (r := rv (.pointer (some ⟨b_q, 2, none⟩))) (o_fieldAddr Tryz.underlying57 rfl Tryz.sizeOf23 rfl rfl) ?_
    refine u_store (i := 2) Tryz.sizeOf23 rfl rfl (one_row (i := 0) rfl) rfl rfl (cs' := [rS r73.2.fS, rI .i64 r73.2.fAt, rv v80, rB r73.2.fGreat]) rfl (H' := [.row v80 63 4 (List.map eTApiCell (r73.2.fCells ++ ([(TApiCell.mk 2 1 ([] : Str) 0)] : List TApiCell))), .row (.slice (some ⟨b79, 0, none⟩) 1 1) 63 4 (List.map eTApiCell ([(TApiCell.mk 2 1 ([] : Str) 0)] : List TApiCell)), .blk b_q [rS r73.2.fS, rI .i64 r73.2.fAt, rv v80, rB r73.2.fGreat] 57]) rfl ?_
    refine wl_nil ?_
    refine wk_in_norm ?_
    refine wk_perm (H2 := [.blk b_q [rS r73.2.fS, rI .i64 r73.2.fAt, rv v80, rB r73.2.fGreat] 57, .row v80 63 4 (List.map eTApiCell (r73.2.fCells ++ ([(TApiCell.mk 2 1 ([] : Str) 0)] : List TApiCell))), .row (.slice (some ⟨b79, 0, none⟩) 1 1) 63 4 (List.map eTApiCell ([(TApiCell.mk 2 1 ([] : Str) 0)] : List TApiCell))]) ((perm_front (i := 2) rfl).trans (List.Perm.cons _ (List.Perm.refl _))) ?_
    exact wk_then (wk_some ((r73.2.fS, r73.2.fAt, r73.2.fCells ++ ([(TApiCell.mk 2 1 ([] : Str) 0)] : List TApiCell), r73.2.fGreat), v80) h82 (Sub.c rfl Sub.nil) (sC (sC (sS sN))))
   ·have h83 := cnd_f c77 h74
    refine wc_sr ?_
    refine wm rfl ?_
    obtain ⟨r84, e86, h85⟩ := obn_e h83
    refine wcl (Hr := []) Tryz.call64 (vTake_w b_q v76 r73.2 ([102, 97, 108, 115, 101] : Str) r84 e86) rfl (List.Perm.refl _) rfl ?_
    rintro _ _ ⟨v87, rfl, rfl⟩
    refine wa rfl ?_
    refine wl_x ?_
    refine wc_cond (b := r84.1) rfl (fun c88 => ?_) (fun c88 => ?_)
    ·have h89 := cnd_t c88 h85
     refine wc_region ?_
     refine wm rfl ?_
     refine wm rfl ?_
     refine wv (r := rv (.pointer (some ⟨b_q, 0, none⟩))) (o_nilcheck rfl) ?_
     refine wv (r := rv (.pointer (some ⟨b_q, 2, none⟩))) (o_fieldAddr Tryz.underlying57 rfl Tryz.sizeOf23 rfl rfl) ?_
     refine wv (r := rv v87) (o_load (i := 0) Tryz.isAgg23 rfl rfl rfl) ?_
     refine wv (r := rAgg [rI .i64 2, rI .i64 0, rS ([] : Str), rI .i64 0]) (o_build63_0 rfl rfl) ?_
     refine w_buildSlice (ys := ([(TApiCell.mk 2 0 ([] : Str) 0)] : List TApiCell)) (enc := eTApiCell) (css := [[rI .i64 2, rI .i64 0, rS ([] : Str), rI .i64 0]]) (xs := [.tmp 41]) Tryz.underlying23 Tryz.sizeOf63 Tryz.zeroValue63 rfl rfl rfl ⟨Cel.agg ⟨Up.refl _, Up.refl _, Up.refl _, Up.refl _, trivial⟩, trivial⟩ rfl eTApiCell_len rfl rfl rfl (fun b90 => ?_)
     obtain ⟨g92, h93⟩ := chk_e h89
     obtain ⟨inf, hinf⟩ := info63
     refine w_append (xs := r84.2.fCells) (ys := ([(TApiCell.mk 2 0 ([] : Str) 0)] : List TApiCell)) (enc := eTApiCell) (i := 2) Tryz.underlying23 hinf.1 hinf.2.1 hinf.2.2.1 hinf.2.2.2 rfl rfl rfl rfl rfl (Src.w (i := 0) rfl rfl) eTApiCell_len eTApiCell_one g92 rfl (fun v91 => ?_)
     refine wv (r := rv (.pointer (some ⟨b_q, 0, none⟩))) (o_nilcheck rfl) ?_
     refine wv (r := rv (.pointer (some ⟨b_q, 2, none⟩))) (o_fieldAddr Tryz.underlying57 rfl Tryz.sizeOf23 rfl rfl) ?_
     refine u_store (i := 2) Tryz.sizeOf23 rfl rfl (one_row (i := 0) rfl) rfl rfl (cs' := [rS r84.2.fS, rI .i64 r84.2.fAt, rv v91, rB r84.2.fGreat]) rfl (H' := [.row v91 63 4 (List.map eTApiCell (r84.2.fCells ++ ([(TApiCell.mk 2 0 ([] : Str) 0)] : List TApiCell))), .row (.slice (some ⟨b90, 0, none⟩) 1 1) 63 4 (List.map eTApiCell ([(TApiCell.mk 2 0 ([] : Str) 0)] : List TApiCell)), .blk b_q [rS r84.2.fS, rI .i64 r84.2.fAt, rv v91, rB r84.2.fGreat] 57]) rfl ?_
     refine wl_nil ?_
     refine wk_in_norm ?_
     refine wk_perm (H2 := [.blk b_q [rS r84.2.fS, rI .i64 r84.2.fAt, rv v91, rB r84.2.fGreat] 57, .row v91 63 4 (List.map eTApiCell (r84.2.fCells ++ ([(TApiCell.mk 2 0 ([] : Str) 0)] : List TApiCell))), .row (.slice (some ⟨b90, 0, none⟩) 1 1) 63 4 (List.map eTApiCell ([(TApiCell.mk 2 0 ([] : Str) 0)] : List TApiCell))]) ((perm_front (i := 2) rfl).trans (List.Perm.cons _ (List.Perm.refl _))) ?_
     exact wk_then (wk_some ((r84.2.fS, r84.2.fAt, r84.2.fCells ++ ([(TApiCell.mk 2 0 ([] : Str) 0)] : List TApiCell), r84.2.fGreat), v91) h93 (Sub.c rfl Sub.nil) (sC (sC (sS sN))))
    ·have h94 := cnd_f c88 h85
     refine wc_seq ?_
     obtain ⟨g95, h96⟩ := chk_e h94
     obtain ⟨r97, e99, h98⟩ := obn_e h96
     refine wc_rd [⟨[], rv (.pointer (some ⟨b_q, 0, none⟩)), 0⟩, ⟨[0], rv (.pointer (some ⟨b_q, 0, none⟩)), 0⟩, ⟨[1], rv (.pointer (some ⟨b_q, 0, none⟩)), 0⟩, ⟨[2], rS r84.2.fS, 1⟩, ⟨[], rv (.pointer (some ⟨b_q, 0, none⟩)), 0⟩, ⟨[4], rv (.pointer (some ⟨b_q, 0, none⟩)), 0⟩, ⟨[5], rv (.pointer (some ⟨b_q, 1, none⟩)), 0⟩, ⟨[6], rI .i64 r84.2.fAt, 1⟩, ⟨[3, 7], rS (List.drop (Int.toNat r84.2.fAt) r84.2.fS), 0⟩, ⟨[8], rB r97, 0⟩, ⟨[9], rB r97, 0⟩] (rle [(12, [.blk b_q [rS r84.2.fS, rI .i64 r84.2.fAt, rv v87, rB r84.2.fGreat] 57, .row v87 63 4 (List.map eTApiCell r84.2.fCells)])]) [(0, rv (.pointer (some ⟨b_q, 0, none⟩))), (2, rB false)] (by kernel_rfl) (by kernel_rfl) (Sub.c rfl (Sub.c rfl Sub.nil)) rfl rfl ?_ ?_
     ·refine obl_q rfl (fun H => ok_v (o_move rfl)) ?_
      refine obl_q rfl (fun H => ok_v (r := rv (.pointer (some ⟨b_q, 0, none⟩))) (o_nilcheck rfl)) ?_
      refine obl_q rfl (fun H => ok_v (r := rv (.pointer (some ⟨b_q, 0, none⟩))) (o_fieldAddr Tryz.underlying57 rfl Tryz.sizeOf9 rfl rfl)) ?_
      refine obl_f rfl (ok_v (r := rS r84.2.fS) (o_load (i := 0) Tryz.isAgg9 rfl rfl rfl)) ?_
      refine obl_q rfl (fun H => ok_v (o_move rfl)) ?_
      refine obl_q rfl (fun H => ok_v (r := rv (.pointer (some ⟨b_q, 0, none⟩))) (o_nilcheck rfl)) ?_
      refine obl_q rfl (fun H => ok_v (r := rv (.pointer (some ⟨b_q, 1, none⟩))) (o_fieldAddr Tryz.underlying57 rfl Tryz.sizeOf3 rfl rfl)) ?_
      refine obl_f rfl (ok_v (r := rI .i64 r84.2.fAt) (o_load (i := 0) Tryz.isAgg3 rfl rfl rfl)) ?_
      refine obl_q rfl (fun H => ok_v (r := rS (List.drop (Int.toNat r84.2.fAt) r84.2.fS)) (o_slice_lo Tryz.underlying9 rfl rfl g95)) ?_
      refine obl_q rfl (fun H => ok_c0 Tryz.call94 (hasPrefix_w (List.drop (Int.toNat r84.2.fAt) r84.2.fS) ([34] : Str) r97 e99) rfl) ?_
      refine obl_q rfl (fun H => ok_v (o_assign rfl)) ?_
      exact obl_e
     refine wk_as (l' := [(47, rv (.pointer (some ⟨b_q, 0, none⟩))), (48, rv (.pointer (some ⟨b_q, 0, none⟩))), (49, rv (.pointer (some ⟨b_q, 0, none⟩))), (50, rS r84.2.fS), (51, rv (.pointer (some ⟨b_q, 0, none⟩))), (52, rv (.pointer (some ⟨b_q, 0, none⟩))), (53, rv (.pointer (some ⟨b_q, 1, none⟩))), (54, rI .i64 r84.2.fAt), (55, rS (List.drop (Int.toNat r84.2.fAt) r84.2.fS)), (56, rB r97), (46, rB r97), (0, rv (.pointer (some ⟨b_q, 0, none⟩))), (2, rB false)]) (H' := [.blk b_q [rS r84.2.fS, rI .i64 r84.2.fAt, rv v87, rB r84.2.fGreat] 57, .row v87 63 4 (List.map eTApiCell r84.2.fCells)]) rfl rfl ?_
     refine wk_x ?_
     refine wc_cond (b := r97) rfl (fun c100 => ?_) (fun c100 => ?_)
     ·have h101 := cnd_t c100 h98
      refine wc_sr ?_
      refine wm rfl ?_
      obtain ⟨r102, e104, h103⟩ := obn_e h101
      refine wcl (Hr := []) Tryz.call66 (vRStr_w F b_q v87 r84.2 r102 e104) rfl (List.Perm.refl _) rfl ?_
      rintro _ _ ⟨v105, rfl, rfl⟩
      refine wm rfl ?_
      refine wv (r := rS r102.1) (o_extract rfl rfl) ?_
      refine wv (r := rB r102.2.1) (o_extract rfl rfl) ?_
      refine wa rfl ?_
      refine wa rfl ?_
      refine wl_x ?_
      refine wc_seq ?_
      refine wc_sr ?_
      refine wm rfl ?_
      refine wv (r := rB (!r102.2.1)) (o_not rfl) ?_
      refine wl_x ?_
      refine wc_cond (b := !r102.2.1) rfl (fun c106 => ?_) (fun c106 => ?_)
      ·have h107 := cnd_t c106 h103
       refine wc_sr ?_
       refine wv (r := rB false) (o_assign rfl) ?_
       refine wl_x ?_
       refine wc_ret ?_
       refine wk_then_ret ?_
       refine wk_in_ret ?_
       refine wk_then_ret ?_
       obtain rfl := some_e h107
       exact wk_ret (r_1 Tryz.results65 (rv_t rfl)) (sC (sC sN)) ⟨v105, rfl, rfl⟩
      ·have h108 := cnd_f c106 h103
       refine wc_skip ?_
       refine wk_x ?_
       refine wc_region ?_
       refine wm rfl ?_
       refine wm rfl ?_
       refine wv (r := rv (.pointer (some ⟨b_q, 0, none⟩))) (o_nilcheck rfl) ?_
       refine wv (r := rv (.pointer (some ⟨b_q, 2, none⟩))) (o_fieldAddr Tryz.underlying57 rfl Tryz.sizeOf23 rfl rfl) ?_
       refine wv (r := rv v105) (o_load (i := 0) Tryz.isAgg23 rfl rfl rfl) ?_
       refine wm rfl ?_
       refine wv (r := rAgg [rI .i64 4, rI .i64 0, rS r102.1, rI .i64 0]) (o_build63_0_2 rfl rfl rfl rfl) ?_
       refine w_buildSlice (ys := ([(TApiCell.mk 4 0 r102.1 0)] : List TApiCell)) (enc := eTApiCell) (css := [[rI .i64 4, rI .i64 0, rS r102.1, rI .i64 0]]) (xs := [.tmp 70]) Tryz.underlying23 Tryz.sizeOf63 Tryz.zeroValue63 rfl rfl rfl ⟨Cel.agg ⟨Up.refl _, Up.refl _, Up.refl _, Up.refl _, trivial⟩, trivial⟩ rfl eTApiCell_len rfl rfl rfl (fun b109 => ?_)
       obtain ⟨g111, h112⟩ := chk_e h108
       obtain ⟨inf, hinf⟩ := info63
       refine w_append (xs := r102.2.2.fCells) (ys := ([(TApiCell.mk 4 0 r102.1 0)] : List TApiCell)) (enc := eTApiCell) (i := 2) Tryz.underlying23 hinf.1 hinf.2.1 hinf.2.2.1 hinf.2.2.2 rfl rfl rfl rfl rfl (Src.w (i := 0) rfl rfl) eTApiCell_len eTApiCell_one g111 rfl (fun v110 => ?_)
       refine wv (r := rv (.pointer (some ⟨b_q, 0, none⟩))) (o_nilcheck rfl) ?_
       refine wv (r := rv (.pointer (some ⟨b_q, 2, none⟩))) (o_fieldAddr Tryz.underlying57 rfl Tryz.sizeOf23 rfl rfl) ?_
       refine u_store (i := 2) Tryz.sizeOf23 rfl rfl (one_row (i := 0) rfl) rfl rfl (cs' := [rS r102.2.2.fS, rI .i64 r102.2.2.fAt, rv v110, rB r102.2.2.fGreat]) rfl (H' := [.row v110 63 4 (List.map eTApiCell (r102.2.2.fCells ++ ([(TApiCell.mk 4 0 r102.1 0)] : List TApiCell))), .row (.slice (some ⟨b109, 0, none⟩) 1 1) 63 4 (List.map eTApiCell ([(TApiCell.mk 4 0 r102.1 0)] : List TApiCell)), .blk b_q [rS r102.2.2.fS, rI .i64 r102.2.2.fAt, rv v110, rB r102.2.2.fGreat] 57]) rfl ?_
       refine wl_nil ?_
       refine wk_in_norm ?_
       refine wk_perm (H2 := [.blk b_q [rS r102.2.2.fS, rI .i64 r102.2.2.fAt, rv v110, rB r102.2.2.fGreat] 57, .row v110 63 4 (List.map eTApiCell (r102.2.2.fCells ++ ([(TApiCell.mk 4 0 r102.1 0)] : List TApiCell))), .row (.slice (some ⟨b109, 0, none⟩) 1 1) 63 4 (List.map eTApiCell ([(TApiCell.mk 4 0 r102.1 0)] : List TApiCell))]) ((perm_front (i := 2) rfl).trans (List.Perm.cons _ (List.Perm.refl _))) ?_
       exact wk_then (wk_some ((r102.2.2.fS, r102.2.2.fAt, r102.2.2.fCells ++ ([(TApiCell.mk 4 0 r102.1 0)] : List TApiCell), r102.2.2.fGreat), v110) h112 (Sub.c rfl Sub.nil) (sC (sC (sS sN))))
     ·have h113 := cnd_f c100 h98
      refine wc_sr ?_
      refine wm rfl ?_
      obtain ⟨r114, e116, h115⟩ := obn_e h113
      refine wcl (Hr := []) Tryz.call95 (vRInt_w F b_q v87 r84.2 r114 e116) rfl (List.Perm.refl _) rfl ?_
      rintro _ _ ⟨v117, rfl, rfl⟩
      refine wa rfl ?_
      refine wl_x ?_
      refine wc_ret ?_
      refine wk_in_ret ?_
      refine wk_then_ret ?_
      obtain rfl := some_e h115
      exact wk_ret (r_1 Tryz.results65 (rv_t rfl)) (sC (sC sN)) ⟨v117, rfl, rfl⟩
 ·rintro ⟨⟨x57, x58, x59, x61⟩, v60⟩ h118
  refine wc_as (l' := [(2, rB false)]) (H' := [.blk b_q [rS x57, rI .i64 x58, rv v60, rB x61] 57, .row v60 63 4 (List.map eTApiCell x59)]) rfl rfl ?_
  replace h118 : vRScalar_j1 x57 x58 x59 x61 = some r := h118
  unfold vRScalar_j1 at h118
  refine wc_sr ?_
  refine wv (r := rB true) (o_assign rfl) ?_
  refine wl_x ?_
  refine wc_ret ?_
  obtain rfl := some_e h118
  exact wk_ret (r_1 Tryz.results65 (rv_t rfl)) (sC (sC sN)) ⟨v60, rfl, rfl⟩

theorem vRValuem_w (F : Nat) (rec_vRValue : TValueReader → Option (Bool × TValueReader)) (ih_vRValue : (∀ (b_q : Nat) (v_q_2 : Value) (q : TValueReader) (r : Bool × TValueReader), rec_vRValue q = some r → Fn Tryz.prog GE 44 [rv (.pointer (some ⟨b_q, 0, none⟩))] [.blk b_q [rS q.fS, rI .i64 q.fAt, rv v_q_2, rB q.fGreat] 57, .row v_q_2 63 4 (List.map eTApiCell q.fCells)] (fun R H => ∃ w0_2 : Value, R = rB r.1 ∧ H = [.blk b_q [rS r.2.fS, rI .i64 r.2.fAt, rv w0_2, rB r.2.fGreat] 57, .row w0_2 63 4 (List.map eTApiCell r.2.fCells)]))) (b_q : Nat) (v_q_2 : Value) (q : TValueReader) (r : Bool × TValueReader) (h : vRValuem F rec_vRValue q = some r) : Fn Tryz.prog GE 44 [rv (.pointer (some ⟨b_q, 0, none⟩))] [.blk b_q [rS q.fS, rI .i64 q.fAt, rv v_q_2, rB q.fGreat] 57, .row v_q_2 63 4 (List.map eTApiCell q.fCells)] (fun R H => ∃ w0_2 : Value, R = rB r.1 ∧ H = [.blk b_q [rS r.2.fS, rI .i64 r.2.fAt, rv w0_2, rB r.2.fGreat] 57, .row w0_2 63 4 (List.map eTApiCell r.2.fCells)]) := by
 refine enter (n := 96) Tryz.func44 rfl Tryz.ntmps44 rfl (fun w Z => ?_)
 refine wc_as (l' := [(0, rv (.pointer (some ⟨b_q, 0, none⟩)))]) (H' := [.blk b_q [rS q.fS, rI .i64 q.fAt, rv v_q_2, rB q.fGreat] 57, .row v_q_2 63 4 (List.map eTApiCell q.fCells)]) rfl rfl ?_
 unfold vRValuem at h
 refine wc_sr ?_
 refine wv (r := rB false) (o_assign rfl) ?_
 refine wl_y ?_
 refine wm rfl ?_
 obtain ⟨r1, e3, h2⟩ := obn_e h
 refine wcl (Hr := []) Tryz.call64 (vTake_w b_q v_q_2 q ([91] : Str) r1 e3) rfl (List.Perm.refl _) rfl ?_
 rintro _ _ ⟨v4, rfl, rfl⟩
 refine wa rfl ?_
 refine wl_x ?_
 refine wc_seq ?_
 refine wc_seq_cut (S := (Bool × Str × Int × (List TApiCell) × Bool) × (Value)) (fun σ => vRValue_j1 F rec_vRValue r1 σ.1.1 σ.1.2.1 σ.1.2.2.1 σ.1.2.2.2.1 σ.1.2.2.2.2 = some r) (fun σ => [(0, rv (.pointer (some ⟨b_q, 0, none⟩))), (2, rB false), (3, rB r1.1), (19, rB σ.1.1)]) (fun σ => [.blk b_q [rS σ.1.2.1, rI .i64 σ.1.2.2.1, rv σ.2, rB σ.1.2.2.2.2] 57, .row σ.2 63 4 (List.map eTApiCell σ.1.2.2.2.1)]) ?_ ?_
 ·refine wc_region ?_
  refine wm rfl ?_
  refine wv (r := rB (!r1.1)) (o_not rfl) ?_
  refine wm rfl ?_
  refine bsplit (!r1.1) (fun c19 => ?_) (fun c19 => ?_)
  ·have h20 := cnd_t c19 h2
   refine wl_on rfl rfl c19 ?_
   refine wm rfl ?_
   refine wl_on rfl rfl c19 ?_
   obtain ⟨r21, e23, h22⟩ := obn_e h20
   refine wcl (Hr := []) Tryz.call64 (vTake_w b_q v4 r1.2 ([123] : Str) r21 e23) rfl (List.Perm.refl _) rfl ?_
   rintro _ _ ⟨v24, rfl, rfl⟩
   refine wl_on rfl rfl c19 ?_
   refine wv (r := rB (!r21.1)) (o_not rfl) ?_
   refine wpt rfl c19 rfl ?_
   refine wl_nil ?_
   exact wk_then (wk_some ((!r21.1, r21.2.fS, r21.2.fAt, r21.2.fCells, r21.2.fGreat), v24) h22 (Sub.c rfl (Sub.c rfl (Sub.c rfl (Sub.c rfl Sub.nil)))) (sC (sC sN)))
  ·have h25 := cnd_f c19 h2
   refine wl_off rfl rfl c19 rfl ?_
   refine wl_off rfl rfl c19 rfl ?_
   refine wl_off rfl rfl c19 rfl ?_
   refine wv (r := rB false) (o_pick_f (b := !r1.1) rfl c19 rfl) ?_
   refine wl_nil ?_
   exact wk_then (wk_some ((false, r1.2.fS, r1.2.fAt, r1.2.fCells, r1.2.fGreat), v4) h25 (Sub.c rfl (Sub.c rfl (Sub.c rfl (Sub.c rfl Sub.nil)))) (sC (sC sN)))
 ·rintro ⟨⟨x13, x14, x15, x16, x18⟩, v17⟩ h26
  refine wc_as (l' := [(0, rv (.pointer (some ⟨b_q, 0, none⟩))), (2, rB false), (3, rB r1.1), (19, rB x13)]) (H' := [.blk b_q [rS x14, rI .i64 x15, rv v17, rB x18] 57, .row v17 63 4 (List.map eTApiCell x16)]) rfl rfl ?_
  replace h26 : vRValue_j1 F rec_vRValue r1 x13 x14 x15 x16 x18 = some r := h26
  unfold vRValue_j1 at h26
  refine wc_cond (b := x13) rfl (fun c27 => ?_) (fun c27 => ?_)
  ·have h28 := cnd_t c27 h26
   refine wc_sr ?_
   refine wm rfl ?_
   obtain ⟨r29, e31, h30⟩ := obn_e h28
   refine wcl (Hr := []) Tryz.call65 (vRScalar_w F b_q v17 (TValueReader.mk x14 x15 x16 x18) r29 e31) rfl (List.Perm.refl _) rfl ?_
   rintro _ _ ⟨v32, rfl, rfl⟩
   refine wa rfl ?_
   refine wl_x ?_
   refine wc_ret ?_
   refine wk_then_ret ?_
   obtain rfl := some_e h30
   exact wk_ret (r_1 Tryz.results44 (rv_t rfl)) (sC (sC sN)) ⟨v32, rfl, rfl⟩
  ·have h33 := cnd_f c27 h26
   refine wc_skip ?_
   refine wk_x ?_
   refine wc_sr ?_
   refine wv (r := rI .i64 6) (o_assign rfl) ?_
   refine wv (r := rS ([125] : Str)) (o_assign rfl) ?_
   refine wl_x ?_
   refine wc_seq ?_
   refine wc_sr ?_
   refine wm rfl ?_
   refine wl_x ?_
   refine wc_cond (b := r1.1) rfl (fun c34 => ?_) (fun c34 => ?_)
   ·have h35 := cnd_t c34 h33
    refine wc_region ?_
    refine wv (r := rI .i64 5) (o_assign rfl) ?_
    refine wv (r := rS ([93] : Str)) (o_assign rfl) ?_
    refine wl_y ?_
    refine wm rfl ?_
    refine wv (r := rv (.pointer (some ⟨b_q, 0, none⟩))) (o_nilcheck rfl) ?_
    refine wv (r := rv (.pointer (some ⟨b_q, 2, none⟩))) (o_fieldAddr Tryz.underlying57 rfl Tryz.sizeOf23 rfl rfl) ?_
    refine wv (r := rv v17) (o_load (i := 0) Tryz.isAgg23 rfl rfl rfl) ?_
    refine wv (r := rI .i64 (x16.length : Int)) (o_len_wt (ys := x16) (enc := eTApiCell) (i := 1) Tryz.underlying23 rfl rfl) ?_
    refine wa rfl ?_
    refine wl_y ?_
    refine wm rfl ?_
    refine wm rfl ?_
    refine wv (r := rv (.pointer (some ⟨b_q, 0, none⟩))) (o_nilcheck rfl) ?_
    refine wv (r := rv (.pointer (some ⟨b_q, 2, none⟩))) (o_fieldAddr Tryz.underlying57 rfl Tryz.sizeOf23 rfl rfl) ?_
    refine wv (r := rv v17) (o_load (i := 0) Tryz.isAgg23 rfl rfl rfl) ?_
    refine wm rfl ?_
    refine wv (r := rAgg [rI .i64 5, rI .i64 0, rS ([] : Str), rI .i64 0]) (o_build63_0 rfl rfl) ?_
    refine w_buildSlice (ys := ([(TApiCell.mk 5 0 ([] : Str) 0)] : List TApiCell)) (enc := eTApiCell) (css := [[rI .i64 5, rI .i64 0, rS ([] : Str), rI .i64 0]]) (xs := [.tmp 34]) Tryz.underlying23 Tryz.sizeOf63 Tryz.zeroValue63 rfl rfl rfl ⟨Cel.agg ⟨Up.refl _, Up.refl _, Up.refl _, Up.refl _, trivial⟩, trivial⟩ rfl eTApiCell_len rfl rfl rfl (fun b36 => ?_)
    obtain ⟨g38, h39⟩ := chk_e h35
    obtain ⟨inf, hinf⟩ := info63
    refine w_append (xs := x16) (ys := ([(TApiCell.mk 5 0 ([] : Str) 0)] : List TApiCell)) (enc := eTApiCell) (i := 2) Tryz.underlying23 hinf.1 hinf.2.1 hinf.2.2.1 hinf.2.2.2 rfl rfl rfl rfl rfl (Src.w (i := 0) rfl rfl) eTApiCell_len eTApiCell_one g38 rfl (fun v37 => ?_)
    refine wv (r := rv (.pointer (some ⟨b_q, 0, none⟩))) (o_nilcheck rfl) ?_
    refine wv (r := rv (.pointer (some ⟨b_q, 2, none⟩))) (o_fieldAddr Tryz.underlying57 rfl Tryz.sizeOf23 rfl rfl) ?_
    refine u_store (i := 2) Tryz.sizeOf23 rfl rfl (one_row (i := 0) rfl) rfl rfl (cs' := [rS x14, rI .i64 x15, rv v37, rB x18]) rfl (H' := [.row v37 63 4 (List.map eTApiCell (x16 ++ ([(TApiCell.mk 5 0 ([] : Str) 0)] : List TApiCell))), .row (.slice (some ⟨b36, 0, none⟩) 1 1) 63 4 (List.map eTApiCell ([(TApiCell.mk 5 0 ([] : Str) 0)] : List TApiCell)), .blk b_q [rS x14, rI .i64 x15, rv v37, rB x18] 57]) rfl ?_
    refine wl_x ?_
    refine wc_seq ?_
    refine wc_sr ?_
    refine wm rfl ?_
    refine wm rfl ?_
    obtain ⟨r40, e42, h41⟩ := obn_e h39
    refine wcl (Hr := [.row (.slice (some ⟨b36, 0, none⟩) 1 1) 63 4 (List.map eTApiCell ([(TApiCell.mk 5 0 ([] : Str) 0)] : List TApiCell))]) Tryz.call64 (vTake_w b_q v37 (TValueReader.mk x14 x15 (x16 ++ ([(TApiCell.mk 5 0 ([] : Str) 0)] : List TApiCell)) x18) ([93] : Str) r40 e42) rfl ((perm_front (i := 2) rfl).trans (List.Perm.cons _ (List.Perm.refl _))) rfl ?_
    rintro _ _ ⟨v43, rfl, rfl⟩
    refine wl_x ?_
    refine wc_cond (b := r40.1) rfl (fun c44 => ?_) (fun c44 => ?_)
    ·have h45 := cnd_t c44 h41
     refine wc_sr ?_
     refine wv (r := rB true) (o_assign rfl) ?_
     refine wl_x ?_
     refine wc_ret ?_
     refine wk_then_ret ?_
     obtain rfl := some_e h45
     exact wk_ret (r_1 Tryz.results44 (rv_t rfl)) (sC (sC (sS sN))) ⟨v43, rfl, rfl⟩
    ·have h46 := cnd_f c44 h41
     refine wc_skip ?_
     refine wk_x ?_
     refine wc_sr ?_
     refine wv (r := rS ([] : Str)) (o_assign rfl) ?_
     refine wl_y ?_
     refine wv (r := rI .i64 1) (o_assign rfl) ?_
     refine wl_x ?_
     refine wc_block ?_
     obtain ⟨o141, eo142, hK143⟩ := obn_e h46
     refine wc_loop2 (S := Nat × (Int × Str × Int × (List TApiCell) × Bool) × (Value)) (V := (Unit) × (Unit)) 0 (fun σ => lop (fun σ => vRValue_b2 rec_vRValue x16 σ.1 σ.2.1 σ.2.2.1 σ.2.2.2.1 σ.2.2.2.2) σ.1 σ.2.1 = some o141) (fun σ => [(0, rv (.pointer (some ⟨b_q, 0, none⟩))), (2, rB false), (3, rB r1.1), (5, rS ([93] : Str)), (6, rI .i64 (x16.length : Int)), (7, rS ([] : Str)), (8, rI .i64 σ.2.1.1)]) (fun σ => [.blk b_q [rS σ.2.1.2.1, rI .i64 σ.2.1.2.2.1, rv σ.2.2, rB σ.2.1.2.2.2.2] 57, .row σ.2.2 63 4 (List.map eTApiCell σ.2.1.2.2.2.1)]) (fun σ => σ.1) (F, (1, r40.2.fS, r40.2.fAt, r40.2.fCells, r40.2.fGreat), v43) eo142 (Sub.c rfl (Sub.c rfl (Sub.c5 rfl rfl rfl rfl rfl Sub.nil))) (sC (sC (sS sN))) (fun σ => vRValue_k2  = some r) (fun σ => []) (fun σ => []) ?_ ?_
     ·rintro ⟨n149, ⟨x107, x108, x109, x110, x112⟩, v111⟩ hi147
      refine wc_as (l' := [(0, rv (.pointer (some ⟨b_q, 0, none⟩))), (2, rB false), (3, rB r1.1), (5, rS ([93] : Str)), (6, rI .i64 (x16.length : Int)), (7, rS ([] : Str)), (8, rI .i64 x107)]) (H' := [.blk b_q [rS x108, rI .i64 x109, rv v111, rB x112] 57, .row v111 63 4 (List.map eTApiCell x110)]) rfl rfl ?_
      obtain ⟨m146, rfl, t144, h148, ht145⟩ := lop_e hi147
      replace h148 : vRValue_b2 rec_vRValue x16 x107 x108 x109 x110 x112 = some t144 := h148
      unfold vRValue_b2 at h148
      refine wc_seq ?_
      refine wc_block ?_
      refine wc_seq ?_
      refine wc_sr ?_
      refine wm rfl ?_
      refine wv (r := rB (!r1.1)) (o_not rfl) ?_
      refine wl_x ?_
      refine wc_cond_f rfl (not_t c34) ?_
      refine wc_skip ?_
      refine wk_x ?_
      refine wc_seq ?_
      refine wc_sr ?_
      refine wm rfl ?_
      obtain ⟨r150, e152, h151⟩ := obn_e h148
      refine wcl (Hr := []) Tryz.call44 (ih_vRValue b_q v111 (TValueReader.mk x108 x109 x110 x112) r150 e152) rfl (List.Perm.refl _) rfl ?_
      rintro _ _ ⟨v153, rfl, rfl⟩
      refine wv (r := rB (!r150.1)) (o_not rfl) ?_
      refine wl_x ?_
      refine wc_cond (b := !r150.1) rfl (fun c154 => ?_) (fun c154 => ?_)
      ·have h155 := cnd_t c154 h151
       refine wc_sr ?_
       refine wv (r := rB false) (o_assign rfl) ?_
       refine wl_x ?_
       refine wc_ret ?_
       refine wk_then_ret ?_
       refine wk_in_ret ?_
       refine wk_then_ret ?_
       refine wk_then_ret ?_
       refine wk_cut_ret ?_
       have h156 := stp_ret h155 ht145 hK143
       refine wk_in_ret ?_
       obtain rfl := some_e h156
       exact wk_ret (r_1 Tryz.results44 (rv_t rfl)) (sC (sC sN)) ⟨v153, rfl, rfl⟩
      ·have h157 := cnd_f c154 h151
       refine wc_skip ?_
       refine wk_x ?_
       refine wc_sr ?_
       refine wm rfl ?_
       refine wv (r := rv (.pointer (some ⟨b_q, 0, none⟩))) (o_nilcheck rfl) ?_
       refine wv (r := rv (.pointer (some ⟨b_q, 2, none⟩))) (o_fieldAddr Tryz.underlying57 rfl Tryz.sizeOf23 rfl rfl) ?_
       refine wv (r := rv v153) (o_load (i := 0) Tryz.isAgg23 rfl rfl rfl) ?_
       refine wm rfl ?_
       refine wm rfl ?_
       obtain ⟨g158, h159⟩ := chk_e h157
       refine wv (r := rv (elp 4 v153 (Int.toNat (x16.length : Int)) 0)) (o_ix_w (i := 1) Tryz.underlying23 Tryz.sizeOf63 rfl rfl rfl (len_map g158)) ?_
       refine wv (r := rv (elp 4 v153 (Int.toNat (x16.length : Int)) 3)) (o_fa_w (k := 1) Tryz.underlying63 rfl Tryz.sizeOf3 rfl (len_map g158) rfl rfl rfl) ?_
       refine u_st_w (enc := eTApiCell) (ys := r150.2.fCells) (y' := (TApiCell.mk ((at' r150.2.fCells (x16.length : Int)).fKind) ((at' r150.2.fCells (x16.length : Int)).fInt) ((at' r150.2.fCells (x16.length : Int)).fStr) x107)) (i := 1) (j := (x16.length : Int)) Tryz.sizeOf3 rfl rfl (one_c rfl) rfl g158 rfl rfl (H' := [.blk b_q [rS r150.2.fS, rI .i64 r150.2.fAt, rv v153, rB r150.2.fGreat] 57, .row v153 63 4 (List.map eTApiCell (List.set r150.2.fCells (Int.toNat (x16.length : Int)) (TApiCell.mk ((at' r150.2.fCells (x16.length : Int)).fKind) ((at' r150.2.fCells (x16.length : Int)).fInt) ((at' r150.2.fCells (x16.length : Int)).fStr) x107)))]) rfl ?_
       obtain ⟨r160, e162, h161⟩ := bnd_e h159
       rw [← e162]
       refine wl_x ?_
       refine wc_seq ?_
       refine wc_sr ?_
       refine wm rfl ?_
       refine wm rfl ?_
       obtain ⟨r163, e165, h164⟩ := obn_e h161
       refine wcl (Hr := []) Tryz.call64 (vTake_w b_q v153 (TValueReader.mk r150.2.fS r150.2.fAt r160 r150.2.fGreat) ([93] : Str) r163 e165) rfl (List.Perm.refl _) rfl ?_
       rintro _ _ ⟨v166, rfl, rfl⟩
       refine wl_x ?_
       refine wc_cond (b := r163.1) rfl (fun c167 => ?_) (fun c167 => ?_)
       ·have h168 := cnd_t c167 h164
        refine wc_sr ?_
        refine wv (r := rB true) (o_assign rfl) ?_
        refine wl_x ?_
        refine wc_ret ?_
        refine wk_then_ret ?_
        refine wk_in_ret ?_
        refine wk_then_ret ?_
        refine wk_then_ret ?_
        refine wk_cut_ret ?_
        have h169 := stp_ret h168 ht145 hK143
        refine wk_in_ret ?_
        obtain rfl := some_e h169
        exact wk_ret (r_1 Tryz.results44 (rv_t rfl)) (sC (sC sN)) ⟨v166, rfl, rfl⟩
       ·have h170 := cnd_f c167 h164
        refine wc_skip ?_
        refine wk_x ?_
        refine wc_sr ?_
        refine wm rfl ?_
        obtain ⟨r171, e173, h172⟩ := obn_e h170
        refine wcl (Hr := []) Tryz.call64 (vTake_w b_q v166 r163.2 ([44] : Str) r171 e173) rfl (List.Perm.refl _) rfl ?_
        rintro _ _ ⟨v174, rfl, rfl⟩
        refine wv (r := rB (!r171.1)) (o_not rfl) ?_
        refine wl_x ?_
        refine wc_cond (b := !r171.1) rfl (fun c175 => ?_) (fun c175 => ?_)
        ·have h176 := cnd_t c175 h172
         refine wc_sr ?_
         refine wv (r := rB false) (o_assign rfl) ?_
         refine wl_x ?_
         refine wc_ret ?_
         refine wk_in_ret ?_
         refine wk_then_ret ?_
         refine wk_then_ret ?_
         refine wk_cut_ret ?_
         have h177 := stp_ret h176 ht145 hK143
         refine wk_in_ret ?_
         obtain rfl := some_e h177
         exact wk_ret (r_1 Tryz.results44 (rv_t rfl)) (sC (sC sN)) ⟨v174, rfl, rfl⟩
        ·have h178 := cnd_f c175 h172
         refine wc_skip ?_
         refine wk_in_norm ?_
         refine wk_x ?_
         refine wc_region ?_
         refine wm rfl ?_
         obtain ⟨g179, h180⟩ := chk_e h178
         refine wv (r := rI .i64 (x107 + 1)) (o_add rfl rfl g179) ?_
         refine wa rfl ?_
         refine wl_nil ?_
         have h181 := stp_next h180 ht145
         exact wk_then (wk_some (m146, (x107 + 1, r171.2.fS, r171.2.fAt, r171.2.fCells, r171.2.fGreat), v174) ⟨h181, Nat.lt_succ_self _⟩ (Sub.c rfl (Sub.c rfl (Sub.c5 rfl rfl rfl rfl rfl Sub.nil))) (sC (sC sN)))
     ·rintro ⟨⟨⟩, ⟨⟩⟩ h182
      cases h182
   ·have h183 := cnd_f c34 h33
    refine wc_skip ?_
    refine wk_x ?_
    refine wc_sr ?_
    refine wm rfl ?_
    refine wv (r := rv (.pointer (some ⟨b_q, 0, none⟩))) (o_nilcheck rfl) ?_
    refine wv (r := rv (.pointer (some ⟨b_q, 2, none⟩))) (o_fieldAddr Tryz.underlying57 rfl Tryz.sizeOf23 rfl rfl) ?_
    refine wv (r := rv v17) (o_load (i := 0) Tryz.isAgg23 rfl rfl rfl) ?_
    refine wv (r := rI .i64 (x16.length : Int)) (o_len_wt (ys := x16) (enc := eTApiCell) (i := 1) Tryz.underlying23 rfl rfl) ?_
    refine wa rfl ?_
    refine wl_y ?_
    refine wm rfl ?_
    refine wm rfl ?_
    refine wv (r := rv (.pointer (some ⟨b_q, 0, none⟩))) (o_nilcheck rfl) ?_
    refine wv (r := rv (.pointer (some ⟨b_q, 2, none⟩))) (o_fieldAddr Tryz.underlying57 rfl Tryz.sizeOf23 rfl rfl) ?_
    refine wv (r := rv v17) (o_load (i := 0) Tryz.isAgg23 rfl rfl rfl) ?_
    refine wm rfl ?_
    refine wv (r := rAgg [rI .i64 6, rI .i64 0, rS ([] : Str), rI .i64 0]) (o_build63_0 rfl rfl) ?_
    refine w_buildSlice (ys := ([(TApiCell.mk 6 0 ([] : Str) 0)] : List TApiCell)) (enc := eTApiCell) (css := [[rI .i64 6, rI .i64 0, rS ([] : Str), rI .i64 0]]) (xs := [.tmp 34]) Tryz.underlying23 Tryz.sizeOf63 Tryz.zeroValue63 rfl rfl rfl ⟨Cel.agg ⟨Up.refl _, Up.refl _, Up.refl _, Up.refl _, trivial⟩, trivial⟩ rfl eTApiCell_len rfl rfl rfl (fun b184 => ?_)
    obtain ⟨g186, h187⟩ := chk_e h183
    obtain ⟨inf, hinf⟩ := info63
    refine w_append (xs := x16) (ys := ([(TApiCell.mk 6 0 ([] : Str) 0)] : List TApiCell)) (enc := eTApiCell) (i := 2) Tryz.underlying23 hinf.1 hinf.2.1 hinf.2.2.1 hinf.2.2.2 rfl rfl rfl rfl rfl (Src.w (i := 0) rfl rfl) eTApiCell_len eTApiCell_one g186 rfl (fun v185 => ?_)
    refine wv (r := rv (.pointer (some ⟨b_q, 0, none⟩))) (o_nilcheck rfl) ?_
    refine wv (r := rv (.pointer (some ⟨b_q, 2, none⟩))) (o_fieldAddr Tryz.underlying57 rfl Tryz.sizeOf23 rfl rfl) ?_
    refine u_store (i := 2) Tryz.sizeOf23 rfl rfl (one_row (i := 0) rfl) rfl rfl (cs' := [rS x14, rI .i64 x15, rv v185, rB x18]) rfl (H' := [.row v185 63 4 (List.map eTApiCell (x16 ++ ([(TApiCell.mk 6 0 ([] : Str) 0)] : List TApiCell))), .row (.slice (some ⟨b184, 0, none⟩) 1 1) 63 4 (List.map eTApiCell ([(TApiCell.mk 6 0 ([] : Str) 0)] : List TApiCell)), .blk b_q [rS x14, rI .i64 x15, rv v185, rB x18] 57]) rfl ?_
    refine wl_x ?_
    refine wc_seq ?_
    refine wc_sr ?_
    refine wm rfl ?_
    refine wm rfl ?_
    obtain ⟨r188, e190, h189⟩ := obn_e h187
    refine wcl (Hr := [.row (.slice (some ⟨b184, 0, none⟩) 1 1) 63 4 (List.map eTApiCell ([(TApiCell.mk 6 0 ([] : Str) 0)] : List TApiCell))]) Tryz.call64 (vTake_w b_q v185 (TValueReader.mk x14 x15 (x16 ++ ([(TApiCell.mk 6 0 ([] : Str) 0)] : List TApiCell)) x18) ([125] : Str) r188 e190) rfl ((perm_front (i := 2) rfl).trans (List.Perm.cons _ (List.Perm.refl _))) rfl ?_
    rintro _ _ ⟨v191, rfl, rfl⟩
    refine wl_x ?_
    refine wc_cond (b := r188.1) rfl (fun c192 => ?_) (fun c192 => ?_)
    ·have h193 := cnd_t c192 h189
     refine wc_sr ?_
     refine wv (r := rB true) (o_assign rfl) ?_
     refine wl_x ?_
     refine wc_ret ?_
     refine wk_then_ret ?_
     obtain rfl := some_e h193
     exact wk_ret (r_1 Tryz.results44 (rv_t rfl)) (sC (sC (sS sN))) ⟨v191, rfl, rfl⟩
    ·have h194 := cnd_f c192 h189
     refine wc_skip ?_
     refine wk_x ?_
     refine wc_sr ?_
     refine wv (r := rS ([] : Str)) (o_assign rfl) ?_
     refine wl_y ?_
     refine wv (r := rI .i64 1) (o_assign rfl) ?_
     refine wl_x ?_
     refine wc_block ?_
     obtain ⟨o440, eo441, hK442⟩ := obn_e h194
     refine wc_loop2 (S := Nat × (Str × Int × Str × Int × (List TApiCell) × Bool) × (Value)) (V := (Unit) × (Unit)) 0 (fun σ => lop (fun σ => vRValue_b3 F rec_vRValue x16 σ.1 σ.2.1 σ.2.2.1 σ.2.2.2.1 σ.2.2.2.2.1 σ.2.2.2.2.2) σ.1 σ.2.1 = some o440) (fun σ => [(0, rv (.pointer (some ⟨b_q, 0, none⟩))), (2, rB false), (3, rB r1.1), (5, rS ([125] : Str)), (6, rI .i64 (x16.length : Int)), (7, rS σ.2.1.1), (8, rI .i64 σ.2.1.2.1)]) (fun σ => [.blk b_q [rS σ.2.1.2.2.1, rI .i64 σ.2.1.2.2.2.1, rv σ.2.2, rB σ.2.1.2.2.2.2.2] 57, .row σ.2.2 63 4 (List.map eTApiCell σ.2.1.2.2.2.2.1)]) (fun σ => σ.1) (F, (([] : Str), 1, r188.2.fS, r188.2.fAt, r188.2.fCells, r188.2.fGreat), v191) eo441 (Sub.c rfl (Sub.c rfl (Sub.c5 rfl rfl rfl rfl rfl Sub.nil))) (sC (sC (sS sN))) (fun σ => vRValue_k3  = some r) (fun σ => []) (fun σ => []) ?_ ?_
     ·rintro ⟨n448, ⟨x348, x349, x350, x351, x352, x354⟩, v353⟩ hi446
      refine wc_as (l' := [(0, rv (.pointer (some ⟨b_q, 0, none⟩))), (2, rB false), (3, rB r1.1), (5, rS ([125] : Str)), (6, rI .i64 (x16.length : Int)), (7, rS x348), (8, rI .i64 x349)]) (H' := [.blk b_q [rS x350, rI .i64 x351, rv v353, rB x354] 57, .row v353 63 4 (List.map eTApiCell x352)]) rfl rfl ?_
      obtain ⟨m445, rfl, t443, h447, ht444⟩ := lop_e hi446
      replace h447 : vRValue_b3 F rec_vRValue x16 x348 x349 x350 x351 x352 x354 = some t443 := h447
      unfold vRValue_b3 at h447
      refine wc_seq ?_
      refine wc_block ?_
      refine wc_seq ?_
      refine wc_sr ?_
      refine wm rfl ?_
      refine wv (r := rB (!r1.1)) (o_not rfl) ?_
      refine wl_x ?_
      refine wc_cond_t rfl (not_f c34) ?_
      refine wc_sr ?_
      refine wm rfl ?_
      obtain ⟨r449, e451, h450⟩ := obn_e h447
      refine wcl (Hr := []) Tryz.call66 (vRStr_w F b_q v353 (TValueReader.mk x350 x351 x352 x354) r449 e451) rfl (List.Perm.refl _) rfl ?_
      rintro _ _ ⟨v452, rfl, rfl⟩
      refine wm rfl ?_
      refine wv (r := rS r449.1) (o_extract rfl rfl) ?_
      refine wv (r := rB r449.2.1) (o_extract rfl rfl) ?_
      refine wa rfl ?_
      refine wa rfl ?_
      refine wl_x ?_
      refine wc_seq ?_
      refine wc_seq_cut (S := (Bool × Bool × Bool × Str × Int × (List TApiCell) × Bool) × (Value)) (fun σ => vRValue_j4 rec_vRValue x16 x349 r449 σ.1.1 σ.1.2.1 σ.1.2.2.1 σ.1.2.2.2.1 σ.1.2.2.2.2.1 σ.1.2.2.2.2.2.1 σ.1.2.2.2.2.2.2 = some t443) (fun σ => [(0, rv (.pointer (some ⟨b_q, 0, none⟩))), (2, rB false), (3, rB r1.1), (5, rS ([125] : Str)), (6, rI .i64 (x16.length : Int)), (7, rS x348), (8, rI .i64 x349), (9, rS r449.1), (10, rB r449.2.1), (44, rB r1.1), (45, rB (!r1.1)), (46, rTup [rS r449.1, rB r449.2.1]), (47, rv (.pointer (some ⟨b_q, 0, none⟩))), (48, rTup [rS r449.1, rB r449.2.1]), (49, rS r449.1), (50, rB r449.2.1), (51, rB r449.2.1), (52, rB (!r449.2.1)), (53, rB (!r449.2.1)), (61, rB σ.1.1), (62, rB σ.1.2.1), (66, rB σ.1.2.2.1)]) (fun σ => [.blk b_q [rS σ.1.2.2.2.1, rI .i64 σ.1.2.2.2.2.1, rv σ.2, rB σ.1.2.2.2.2.2.2] 57, .row σ.2 63 4 (List.map eTApiCell σ.1.2.2.2.2.2.1)]) ?_ ?_
      ·refine wc_region ?_
       refine wm rfl ?_
       refine wv (r := rB (!r449.2.1)) (o_not rfl) ?_
       refine wm rfl ?_
       refine bsplit (!r449.2.1) (fun c481 => ?_) (fun c481 => ?_)
       ·have h482 := cnd_t c481 h450
        refine wl_off rfl rfl c481 rfl ?_
        refine wl_off rfl rfl c481 rfl ?_
        refine wl_off rfl rfl c481 rfl ?_
        refine wl_off_u rfl rfl rfl ?_
        refine wl_off_u rfl rfl rfl ?_
        refine wl_off_u rfl rfl rfl ?_
        refine wl_off rfl rfl c481 rfl ?_
        refine wv (r := rB true) (o_pick_t (b := !r449.2.1) rfl c481 rfl) ?_
        refine wm rfl ?_
        refine wl_off (b := true) rfl rfl rfl rfl ?_
        refine wl_off (b := true) rfl rfl rfl rfl ?_
        refine wl_off (b := true) rfl rfl rfl rfl ?_
        refine wv (r := rB true) (o_pick_t (b := true) rfl rfl rfl) ?_
        refine wl_nil ?_
        exact wk_then (wk_some ((true, true, true, r449.2.2.fS, r449.2.2.fAt, r449.2.2.fCells, r449.2.2.fGreat), v452) h482 (Sub.c rfl (Sub.c rfl (Sub.c5 rfl rfl rfl rfl rfl (Sub.c5 rfl rfl rfl rfl rfl (Sub.c5 rfl rfl rfl rfl rfl (Sub.c5 rfl rfl rfl rfl rfl Sub.nil)))))) (sC (sC sN)))
       ·have h483 := cnd_f c481 h450
        refine wl_on rfl rfl c481 ?_
        refine wm rfl ?_
        refine wl_on rfl rfl c481 ?_
        refine wv (r := rB (decide (1 < x349))) (o_gt rfl rfl) ?_
        refine wl_on rfl rfl c481 ?_
        refine wm rfl ?_
        refine bsplit (decide (1 < x349)) (fun c484 => ?_) (fun c484 => ?_)
        ·have h485 := cnd_t c484 h483
         refine wl_on rfl rfl c484 ?_
         refine wm rfl ?_
         refine wl_on rfl rfl c484 ?_
         refine wm rfl ?_
         refine wl_on rfl rfl c484 ?_
         refine wv (r := rB (sLess r449.1 x348 || decide (r449.1 = x348))) (o_sle rfl rfl) ?_
         refine wl_on rfl rfl c481 ?_
         refine wpt rfl c484 rfl ?_
         refine wpf rfl c481 rfl ?_
         refine wm rfl ?_
         refine bsplit (sLess r449.1 x348 || decide (r449.1 = x348)) (fun c486 => ?_) (fun c486 => ?_)
         ·have h487 := cnd_t c486 h485
          refine wl_off rfl rfl c486 rfl ?_
          refine wl_off rfl rfl c486 rfl ?_
          refine wl_off rfl rfl c486 rfl ?_
          refine wv (r := rB true) (o_pick_t (b := sLess r449.1 x348 || decide (r449.1 = x348)) rfl c486 rfl) ?_
          refine wl_nil ?_
          exact wk_then (wk_some ((sLess r449.1 x348 || decide (r449.1 = x348), sLess r449.1 x348 || decide (r449.1 = x348), true, r449.2.2.fS, r449.2.2.fAt, r449.2.2.fCells, r449.2.2.fGreat), v452) h487 (Sub.c rfl (Sub.c rfl (Sub.c5 rfl rfl rfl rfl rfl (Sub.c5 rfl rfl rfl rfl rfl (Sub.c5 rfl rfl rfl rfl rfl (Sub.c5 rfl rfl rfl rfl rfl Sub.nil)))))) (sC (sC sN)))
         ·have h488 := cnd_f c486 h485
          refine wl_on rfl rfl c486 ?_
          refine wm rfl ?_
          refine wl_on rfl rfl c486 ?_
          obtain ⟨r489, e491, h490⟩ := obn_e h488
          refine wcl (Hr := []) Tryz.call64 (vTake_w b_q v452 r449.2.2 ([58] : Str) r489 e491) rfl (List.Perm.refl _) rfl ?_
          rintro _ _ ⟨v492, rfl, rfl⟩
          refine wl_on rfl rfl c486 ?_
          refine wv (r := rB (!r489.1)) (o_not rfl) ?_
          refine wpf rfl c486 rfl ?_
          refine wl_nil ?_
          exact wk_then (wk_some ((sLess r449.1 x348 || decide (r449.1 = x348), sLess r449.1 x348 || decide (r449.1 = x348), !r489.1, r489.2.fS, r489.2.fAt, r489.2.fCells, r489.2.fGreat), v492) h490 (Sub.c rfl (Sub.c rfl (Sub.c5 rfl rfl rfl rfl rfl (Sub.c5 rfl rfl rfl rfl rfl (Sub.c5 rfl rfl rfl rfl rfl (Sub.c5 rfl rfl rfl rfl rfl Sub.nil)))))) (sC (sC sN)))
        ·have h493 := cnd_f c484 h483
         refine wl_off rfl rfl c484 rfl ?_
         refine wl_off rfl rfl c484 rfl ?_
         refine wl_off rfl rfl c484 rfl ?_
         refine wl_on rfl rfl c481 ?_
         refine wv (r := rB false) (o_pick_f (b := decide (1 < x349)) rfl c484 rfl) ?_
         refine wpf rfl c481 rfl ?_
         refine wm rfl ?_
         refine wl_on (b := false) rfl rfl rfl ?_
         refine wm rfl ?_
         refine wl_on (b := false) rfl rfl rfl ?_
         obtain ⟨r494, e496, h495⟩ := obn_e h493
         refine wcl (Hr := []) Tryz.call64 (vTake_w b_q v452 r449.2.2 ([58] : Str) r494 e496) rfl (List.Perm.refl _) rfl ?_
         rintro _ _ ⟨v497, rfl, rfl⟩
         refine wl_on (b := false) rfl rfl rfl ?_
         refine wv (r := rB (!r494.1)) (o_not rfl) ?_
         refine wv (r := rB (!r494.1)) (o_pick_f (b := false) rfl rfl rfl) ?_
         refine wl_nil ?_
         exact wk_then (wk_some ((false, false, !r494.1, r494.2.fS, r494.2.fAt, r494.2.fCells, r494.2.fGreat), v497) h495 (Sub.c rfl (Sub.c rfl (Sub.c5 rfl rfl rfl rfl rfl (Sub.c5 rfl rfl rfl rfl rfl (Sub.c5 rfl rfl rfl rfl rfl (Sub.c5 rfl rfl rfl rfl rfl Sub.nil)))))) (sC (sC sN)))
      ·rintro ⟨⟨x473, x474, x475, x476, x477, x478, x480⟩, v479⟩ h498
       refine wc_as (l' := [(0, rv (.pointer (some ⟨b_q, 0, none⟩))), (2, rB false), (3, rB r1.1), (5, rS ([125] : Str)), (6, rI .i64 (x16.length : Int)), (7, rS x348), (8, rI .i64 x349), (9, rS r449.1), (10, rB r449.2.1), (44, rB r1.1), (45, rB (!r1.1)), (46, rTup [rS r449.1, rB r449.2.1]), (47, rv (.pointer (some ⟨b_q, 0, none⟩))), (48, rTup [rS r449.1, rB r449.2.1]), (49, rS r449.1), (50, rB r449.2.1), (51, rB r449.2.1), (52, rB (!r449.2.1)), (53, rB (!r449.2.1)), (61, rB x473), (62, rB x474), (66, rB x475)]) (H' := [.blk b_q [rS x476, rI .i64 x477, rv v479, rB x480] 57, .row v479 63 4 (List.map eTApiCell x478)]) rfl rfl ?_
       replace h498 : vRValue_j4 rec_vRValue x16 x349 r449 x473 x474 x475 x476 x477 x478 x480 = some t443 := h498
       unfold vRValue_j4 at h498
       refine wc_cond (b := x475) rfl (fun c499 => ?_) (fun c499 => ?_)
       ·have h500 := cnd_t c499 h498
        refine wc_sr ?_
        refine wv (r := rB false) (o_assign rfl) ?_
        refine wl_x ?_
        refine wc_ret ?_
        refine wk_then_ret ?_
        refine wk_then_ret ?_
        refine wk_in_ret ?_
        refine wk_then_ret ?_
        refine wk_then_ret ?_
        refine wk_cut_ret ?_
        have h501 := stp_ret h500 ht444 hK442
        refine wk_in_ret ?_
        obtain rfl := some_e h501
        exact wk_ret (r_1 Tryz.results44 (rv_t rfl)) (sC (sC sN)) ⟨v479, rfl, rfl⟩
       ·have h502 := cnd_f c499 h498
        refine wc_skip ?_
        refine wk_x ?_
        refine wc_sr ?_
        refine wm rfl ?_
        refine wa rfl ?_
        refine wl_x ?_
        refine wc_region ?_
        refine wm rfl ?_
        refine wm rfl ?_
        refine wv (r := rv (.pointer (some ⟨b_q, 0, none⟩))) (o_nilcheck rfl) ?_
        refine wv (r := rv (.pointer (some ⟨b_q, 2, none⟩))) (o_fieldAddr Tryz.underlying57 rfl Tryz.sizeOf23 rfl rfl) ?_
        refine wv (r := rv v479) (o_load (i := 0) Tryz.isAgg23 rfl rfl rfl) ?_
        refine wm rfl ?_
        refine wv (r := rAgg [rI .i64 4, rI .i64 0, rS r449.1, rI .i64 0]) (o_build63_0_2 rfl rfl rfl rfl) ?_
        refine w_buildSlice (ys := ([(TApiCell.mk 4 0 r449.1 0)] : List TApiCell)) (enc := eTApiCell) (css := [[rI .i64 4, rI .i64 0, rS r449.1, rI .i64 0]]) (xs := [.tmp 74]) Tryz.underlying23 Tryz.sizeOf63 Tryz.zeroValue63 rfl rfl rfl ⟨Cel.agg ⟨Up.refl _, Up.refl _, Up.refl _, Up.refl _, trivial⟩, trivial⟩ rfl eTApiCell_len rfl rfl rfl (fun b503 => ?_)
        obtain ⟨g505, h506⟩ := chk_e h502
        obtain ⟨inf, hinf⟩ := info63
        refine w_append (xs := x478) (ys := ([(TApiCell.mk 4 0 r449.1 0)] : List TApiCell)) (enc := eTApiCell) (i := 2) Tryz.underlying23 hinf.1 hinf.2.1 hinf.2.2.1 hinf.2.2.2 rfl rfl rfl rfl rfl (Src.w (i := 0) rfl rfl) eTApiCell_len eTApiCell_one g505 rfl (fun v504 => ?_)
        refine wv (r := rv (.pointer (some ⟨b_q, 0, none⟩))) (o_nilcheck rfl) ?_
        refine wv (r := rv (.pointer (some ⟨b_q, 2, none⟩))) (o_fieldAddr Tryz.underlying57 rfl Tryz.sizeOf23 rfl rfl) ?_
        refine u_store (i := 2) Tryz.sizeOf23 rfl rfl (one_row (i := 0) rfl) rfl rfl (cs' := [rS x476, rI .i64 x477, rv v504, rB x480]) rfl (H' := [.row v504 63 4 (List.map eTApiCell (x478 ++ ([(TApiCell.mk 4 0 r449.1 0)] : List TApiCell))), .row (.slice (some ⟨b503, 0, none⟩) 1 1) 63 4 (List.map eTApiCell ([(TApiCell.mk 4 0 r449.1 0)] : List TApiCell)), .blk b_q [rS x476, rI .i64 x477, rv v504, rB x480] 57]) rfl ?_
        refine wl_x ?_
        refine wc_seq ?_
        refine wc_sr ?_
        refine wm rfl ?_
        obtain ⟨r507, e509, h508⟩ := obn_e h506
        refine wcl (Hr := [.row (.slice (some ⟨b503, 0, none⟩) 1 1) 63 4 (List.map eTApiCell ([(TApiCell.mk 4 0 r449.1 0)] : List TApiCell))]) Tryz.call44 (ih_vRValue b_q v504 (TValueReader.mk x476 x477 (x478 ++ ([(TApiCell.mk 4 0 r449.1 0)] : List TApiCell)) x480) r507 e509) rfl ((perm_front (i := 2) rfl).trans (List.Perm.cons _ (List.Perm.refl _))) rfl ?_
        rintro _ _ ⟨v510, rfl, rfl⟩
        refine wv (r := rB (!r507.1)) (o_not rfl) ?_
        refine wl_x ?_
        refine wc_cond (b := !r507.1) rfl (fun c511 => ?_) (fun c511 => ?_)
        ·have h512 := cnd_t c511 h508
         refine wc_sr ?_
         refine wv (r := rB false) (o_assign rfl) ?_
         refine wl_x ?_
         refine wc_ret ?_
         refine wk_then_ret ?_
         refine wk_in_ret ?_
         refine wk_then_ret ?_
         refine wk_then_ret ?_
         refine wk_cut_ret ?_
         have h513 := stp_ret h512 ht444 hK442
         refine wk_in_ret ?_
         obtain rfl := some_e h513
         exact wk_ret (r_1 Tryz.results44 (rv_t rfl)) (sC (sC (sS sN))) ⟨v510, rfl, rfl⟩
        ·have h514 := cnd_f c511 h508
         refine wc_skip ?_
         refine wk_x ?_
         refine wc_sr ?_
         refine wm rfl ?_
         refine wv (r := rv (.pointer (some ⟨b_q, 0, none⟩))) (o_nilcheck rfl) ?_
         refine wv (r := rv (.pointer (some ⟨b_q, 2, none⟩))) (o_fieldAddr Tryz.underlying57 rfl Tryz.sizeOf23 rfl rfl) ?_
         refine wv (r := rv v510) (o_load (i := 0) Tryz.isAgg23 rfl rfl rfl) ?_
         refine wm rfl ?_
         refine wm rfl ?_
         obtain ⟨g515, h516⟩ := chk_e h514
         refine wv (r := rv (elp 4 v510 (Int.toNat (x16.length : Int)) 0)) (o_ix_w (i := 1) Tryz.underlying23 Tryz.sizeOf63 rfl rfl rfl (len_map g515)) ?_
         refine wv (r := rv (elp 4 v510 (Int.toNat (x16.length : Int)) 3)) (o_fa_w (k := 1) Tryz.underlying63 rfl Tryz.sizeOf3 rfl (len_map g515) rfl rfl rfl) ?_
         refine u_st_w (enc := eTApiCell) (ys := r507.2.fCells) (y' := (TApiCell.mk ((at' r507.2.fCells (x16.length : Int)).fKind) ((at' r507.2.fCells (x16.length : Int)).fInt) ((at' r507.2.fCells (x16.length : Int)).fStr) x349)) (i := 1) (j := (x16.length : Int)) Tryz.sizeOf3 rfl rfl (one_c rfl) rfl g515 rfl rfl (H' := [.blk b_q [rS r507.2.fS, rI .i64 r507.2.fAt, rv v510, rB r507.2.fGreat] 57, .row v510 63 4 (List.map eTApiCell (List.set r507.2.fCells (Int.toNat (x16.length : Int)) (TApiCell.mk ((at' r507.2.fCells (x16.length : Int)).fKind) ((at' r507.2.fCells (x16.length : Int)).fInt) ((at' r507.2.fCells (x16.length : Int)).fStr) x349))), .row (.slice (some ⟨b503, 0, none⟩) 1 1) 63 4 (List.map eTApiCell ([(TApiCell.mk 4 0 r449.1 0)] : List TApiCell))]) rfl ?_
         obtain ⟨r517, e519, h518⟩ := bnd_e h516
         rw [← e519]
         refine wl_x ?_
         refine wc_seq ?_
         refine wc_sr ?_
         refine wm rfl ?_
         refine wm rfl ?_
         obtain ⟨r520, e522, h521⟩ := obn_e h518
         refine wcl (Hr := [.row (.slice (some ⟨b503, 0, none⟩) 1 1) 63 4 (List.map eTApiCell ([(TApiCell.mk 4 0 r449.1 0)] : List TApiCell))]) Tryz.call64 (vTake_w b_q v510 (TValueReader.mk r507.2.fS r507.2.fAt r517 r507.2.fGreat) ([125] : Str) r520 e522) rfl (List.Perm.refl _) rfl ?_
         rintro _ _ ⟨v523, rfl, rfl⟩
         refine wl_x ?_
         refine wc_cond (b := r520.1) rfl (fun c524 => ?_) (fun c524 => ?_)
         ·have h525 := cnd_t c524 h521
          refine wc_sr ?_
          refine wv (r := rB true) (o_assign rfl) ?_
          refine wl_x ?_
          refine wc_ret ?_
          refine wk_then_ret ?_
          refine wk_in_ret ?_
          refine wk_then_ret ?_
          refine wk_then_ret ?_
          refine wk_cut_ret ?_
          have h526 := stp_ret h525 ht444 hK442
          refine wk_in_ret ?_
          obtain rfl := some_e h526
          exact wk_ret (r_1 Tryz.results44 (rv_t rfl)) (sC (sC (sS sN))) ⟨v523, rfl, rfl⟩
         ·have h527 := cnd_f c524 h521
          refine wc_skip ?_
          refine wk_x ?_
          refine wc_sr ?_
          refine wm rfl ?_
          obtain ⟨r528, e530, h529⟩ := obn_e h527
          refine wcl (Hr := [.row (.slice (some ⟨b503, 0, none⟩) 1 1) 63 4 (List.map eTApiCell ([(TApiCell.mk 4 0 r449.1 0)] : List TApiCell))]) Tryz.call64 (vTake_w b_q v523 r520.2 ([44] : Str) r528 e530) rfl (List.Perm.refl _) rfl ?_
          rintro _ _ ⟨v531, rfl, rfl⟩
          refine wv (r := rB (!r528.1)) (o_not rfl) ?_
          refine wl_x ?_
          refine wc_cond (b := !r528.1) rfl (fun c532 => ?_) (fun c532 => ?_)
          ·have h533 := cnd_t c532 h529
           refine wc_sr ?_
           refine wv (r := rB false) (o_assign rfl) ?_
           refine wl_x ?_
           refine wc_ret ?_
           refine wk_in_ret ?_
           refine wk_then_ret ?_
           refine wk_then_ret ?_
           refine wk_cut_ret ?_
           have h534 := stp_ret h533 ht444 hK442
           refine wk_in_ret ?_
           obtain rfl := some_e h534
           exact wk_ret (r_1 Tryz.results44 (rv_t rfl)) (sC (sC (sS sN))) ⟨v531, rfl, rfl⟩
          ·have h535 := cnd_f c532 h529
           refine wc_skip ?_
           refine wk_in_norm ?_
           refine wk_x ?_
           refine wc_region ?_
           refine wm rfl ?_
           obtain ⟨g536, h537⟩ := chk_e h535
           refine wv (r := rI .i64 (x349 + 1)) (o_add rfl rfl g536) ?_
           refine wa rfl ?_
           refine wl_nil ?_
           have h538 := stp_next h537 ht444
           exact wk_then (wk_some (m445, (r449.1, x349 + 1, r528.2.fS, r528.2.fAt, r528.2.fCells, r528.2.fGreat), v531) ⟨h538, Nat.lt_succ_self _⟩ (Sub.c rfl (Sub.c rfl (Sub.c5 rfl rfl rfl rfl rfl Sub.nil))) (sC (sC (sS sN))))
     ·rintro ⟨⟨⟩, ⟨⟩⟩ h539
      cases h539

theorem vRValue_all : ∀ F : Nat, (∀ (b_q : Nat) (v_q_2 : Value) (q : TValueReader) (r : Bool × TValueReader), vRValue F q = some r → Fn Tryz.prog GE 44 [rv (.pointer (some ⟨b_q, 0, none⟩))] [.blk b_q [rS q.fS, rI .i64 q.fAt, rv v_q_2, rB q.fGreat] 57, .row v_q_2 63 4 (List.map eTApiCell q.fCells)] (fun R H => ∃ w0_2 : Value, R = rB r.1 ∧ H = [.blk b_q [rS r.2.fS, rI .i64 r.2.fAt, rv w0_2, rB r.2.fGreat] 57, .row w0_2 63 4 (List.map eTApiCell r.2.fCells)]))
  | 0 => (fun _ _ _ _ h => by simp [vRValue] at h)
  | nn + 1 => (fun b_q v_q_2 q r h => vRValuem_w nn (vRValue nn) (vRValue_all nn) b_q v_q_2 q r (by rw [vRValue] at h; exact h))

theorem vRValue_w (F : Nat) (b_q : Nat) (v_q_2 : Value) (q : TValueReader) (r : Bool × TValueReader) (h : vRValue F q = some r) : Fn Tryz.prog GE 44 [rv (.pointer (some ⟨b_q, 0, none⟩))] [.blk b_q [rS q.fS, rI .i64 q.fAt, rv v_q_2, rB q.fGreat] 57, .row v_q_2 63 4 (List.map eTApiCell q.fCells)] (fun R H => ∃ w0_2 : Value, R = rB r.1 ∧ H = [.blk b_q [rS r.2.fS, rI .i64 r.2.fAt, rv w0_2, rB r.2.fGreat] 57, .row w0_2 63 4 (List.map eTApiCell r.2.fCells)]) := (vRValue_all F) b_q v_q_2 q r h

theorem vDecode_w (F : Nat) (s : Str) (r : (List TApiCell) × Int) (h : vDecode F s = some r) : Fn Tryz.prog GE 8 [rS s] [] (fun R H => R = rTup [rSl 4 (List.map eTApiCell r.1), rI .i64 r.2] ∧ H = []) := by
 refine enter (n := 34) Tryz.func8 rfl Tryz.ntmps8 rfl (fun w Z => ?_)
 refine wc_as (l' := [(0, rS s)]) (H' := []) rfl rfl ?_
 unfold vDecode at h
 refine wc_sr ?_
 refine wv (r := rv (.slice none 0 0)) (o_assign rfl) ?_
 refine wv (r := rI .i64 0) (o_assign rfl) ?_
 refine wl_x ?_
 refine wc_seq ?_
 refine wc_sr ?_
 refine wm rfl ?_
 refine wv (r := rI .i64 (s.length : Int)) (o_len_s Tryz.underlying9 rfl) ?_
 refine wv (r := rB (decide (4000 < (s.length : Int)))) (o_gt rfl rfl) ?_
 refine wl_x ?_
 refine wc_cond (b := decide (4000 < (s.length : Int))) rfl (fun c1 => ?_) (fun c1 => ?_)
 ·have h2 := cnd_t c1 h
  refine wc_sr ?_
  refine wv (r := rv (.slice none 0 0)) (o_assign rfl) ?_
  refine wv (r := rI .i64 3) (o_assign rfl) ?_
  refine wl_x ?_
  refine wc_ret ?_
  refine wk_then_ret ?_
  refine WK.up (d := 2) (r := rSl 4 (List.map eTApiCell ([] : List TApiCell))) rfl (Up.le (Rle.nil _)) ?_
  obtain rfl := some_e h2
  exact wk_ret (r_2 Tryz.results8 (rv_t rfl) (rv_t rfl)) sN ⟨rfl, rfl⟩
 ·have h3 := cnd_f c1 h
  refine wc_skip ?_
  refine wk_x ?_
  refine wc_sr ?_
  refine wm rfl ?_
  refine wv (r := rAgg [rS s, rI .i64 0, rv (.slice none 0 0), rB false]) (o_build57_0 rfl rfl) ?_
  refine w_box_agg rfl rfl (fun b4 => ?_)
  refine wa rfl ?_
  refine wl_x ?_
  refine wc_seq ?_
  refine wc_seq_cut (S := (Bool × Str × Int × (List TApiCell) × Bool) × (Value)) (fun σ => vDecode_j1 F σ.1.1 σ.1.2.1 σ.1.2.2.1 σ.1.2.2.2.1 σ.1.2.2.2.2 = some r) (fun σ => [(2, rv (.slice none 0 0)), (3, rI .i64 0), (4, rv (.pointer (some ⟨b4, 0, none⟩))), (22, rB σ.1.1)]) (fun σ => [.blk b4 [rS σ.1.2.1, rI .i64 σ.1.2.2.1, rv σ.2, rB σ.1.2.2.2.2] 57, .row σ.2 63 4 (List.map eTApiCell σ.1.2.2.2.1)]) ?_ ?_
  ·refine wc_region ?_
   refine wm rfl ?_
   refine WL.nilrow (e := 63) (sz := 4) ?_
   obtain ⟨r18, e20, h19⟩ := obn_e h3
   refine wcl (Hr := []) Tryz.call44 (vRValue_w F b4 (.slice none 0 0) (TValueReader.mk s 0 ([] : List TApiCell) false) r18 e20) rfl ((perm_front (i := 1) rfl).trans (List.Perm.cons _ (List.Perm.refl _))) rfl ?_
   rintro _ _ ⟨v21, rfl, rfl⟩
   refine wv (r := rB (!r18.1)) (o_not rfl) ?_
   refine wm rfl ?_
   refine bsplit (!r18.1) (fun c22 => ?_) (fun c22 => ?_)
   ·have h23 := cnd_t c22 h19
    refine wl_off rfl rfl c22 rfl ?_
    refine wl_off rfl rfl c22 rfl ?_
    refine wl_off rfl rfl c22 rfl ?_
    refine wl_off rfl rfl c22 rfl ?_
    refine wl_off rfl rfl c22 rfl ?_
    refine wl_off rfl rfl c22 rfl ?_
    refine wl_off rfl rfl c22 rfl ?_
    refine wv (r := rB true) (o_pick_t (b := !r18.1) rfl c22 rfl) ?_
    refine wl_nil ?_
    exact wk_then (wk_some ((true, r18.2.fS, r18.2.fAt, r18.2.fCells, r18.2.fGreat), v21) h23 (Sub.c rfl (Sub.c rfl (Sub.c rfl (Sub.c rfl Sub.nil)))) (sC (sC sN)))
   ·have h24 := cnd_f c22 h19
    refine wl_on rfl rfl c22 ?_
    refine wm rfl ?_
    refine wl_on rfl rfl c22 ?_
    refine wv (r := rv (.pointer (some ⟨b4, 0, none⟩))) (o_nilcheck rfl) ?_
    refine wl_on rfl rfl c22 ?_
    refine wv (r := rv (.pointer (some ⟨b4, 1, none⟩))) (o_fieldAddr Tryz.underlying57 rfl Tryz.sizeOf3 rfl rfl) ?_
    refine wl_on rfl rfl c22 ?_
    refine wv (r := rI .i64 r18.2.fAt) (o_load (i := 0) Tryz.isAgg3 rfl rfl rfl) ?_
    refine wl_on rfl rfl c22 ?_
    refine wm rfl ?_
    refine wl_on rfl rfl c22 ?_
    refine wv (r := rI .i64 (s.length : Int)) (o_len_s Tryz.underlying9 rfl) ?_
    refine wl_on rfl rfl c22 ?_
    refine wv (r := rB (!decide (r18.2.fAt = (s.length : Int)))) (o_ne rfl rfl) ?_
    refine wpf rfl c22 rfl ?_
    refine wl_nil ?_
    exact wk_then (wk_some ((!decide (r18.2.fAt = (s.length : Int)), r18.2.fS, r18.2.fAt, r18.2.fCells, r18.2.fGreat), v21) h24 (Sub.c rfl (Sub.c rfl (Sub.c rfl (Sub.c rfl Sub.nil)))) (sC (sC sN)))
  ·rintro ⟨⟨x12, x13, x14, x15, x17⟩, v16⟩ h25
   refine wc_as (l' := [(2, rv (.slice none 0 0)), (3, rI .i64 0), (4, rv (.pointer (some ⟨b4, 0, none⟩))), (22, rB x12)]) (H' := [.blk b4 [rS x13, rI .i64 x14, rv v16, rB x17] 57, .row v16 63 4 (List.map eTApiCell x15)]) rfl rfl ?_
   replace h25 : vDecode_j1 F x12 x13 x14 x15 x17 = some r := h25
   unfold vDecode_j1 at h25
   refine wc_cond (b := x12) rfl (fun c26 => ?_) (fun c26 => ?_)
   ·have h27 := cnd_t c26 h25
    refine wc_sr ?_
    refine wv (r := rv (.slice none 0 0)) (o_assign rfl) ?_
    refine wv (r := rI .i64 1) (o_assign rfl) ?_
    refine wl_x ?_
    refine wc_ret ?_
    refine wk_then_ret ?_
    refine WK.up (d := 2) (r := rSl 4 (List.map eTApiCell ([] : List TApiCell))) rfl (Up.le (Rle.nil _)) ?_
    obtain rfl := some_e h27
    exact wk_ret (r_2 Tryz.results8 (rv_t rfl) (rv_t rfl)) (sS (sS sN)) ⟨rfl, rfl⟩
   ·have h28 := cnd_f c26 h25
    refine wc_skip ?_
    refine wk_x ?_
    refine wc_seq ?_
    refine wc_sr ?_
    refine wm rfl ?_
    refine wv (r := rv (.pointer (some ⟨b4, 0, none⟩))) (o_nilcheck rfl) ?_
    refine wv (r := rv (.pointer (some ⟨b4, 3, none⟩))) (o_fieldAddr Tryz.underlying57 rfl Tryz.sizeOf4 rfl rfl) ?_
    refine wv (r := rB x17) (o_load (i := 0) Tryz.isAgg4 rfl rfl rfl) ?_
    refine wl_x ?_
    refine wc_cond (b := x17) rfl (fun c29 => ?_) (fun c29 => ?_)
    ·have h30 := cnd_t c29 h28
     refine wc_sr ?_
     refine wv (r := rv (.slice none 0 0)) (o_assign rfl) ?_
     refine wv (r := rI .i64 2) (o_assign rfl) ?_
     refine wl_x ?_
     refine wc_ret ?_
     refine wk_then_ret ?_
     refine WK.up (d := 2) (r := rSl 4 (List.map eTApiCell ([] : List TApiCell))) rfl (Up.le (Rle.nil _)) ?_
     obtain rfl := some_e h30
     exact wk_ret (r_2 Tryz.results8 (rv_t rfl) (rv_t rfl)) (sS (sS sN)) ⟨rfl, rfl⟩
    ·have h31 := cnd_f c29 h28
     refine wc_skip ?_
     refine wk_x ?_
     refine wc_sr ?_
     refine wm rfl ?_
     refine wv (r := rv (.pointer (some ⟨b4, 0, none⟩))) (o_nilcheck rfl) ?_
     refine wv (r := rv (.pointer (some ⟨b4, 2, none⟩))) (o_fieldAddr Tryz.underlying57 rfl Tryz.sizeOf23 rfl rfl) ?_
     refine wv (r := rv v16) (o_load (i := 0) Tryz.isAgg23 rfl rfl rfl) ?_
     refine WL.freeze (i := 1) rfl ?_
     refine WL.up (d := 30) (r := rSl 4 (List.map eTApiCell x15)) rfl (Up.fact (i := 0) rfl) ?_
     obtain ⟨r32, e34, h33⟩ := obn_e h31
     refine wc0 Tryz.call45 (vChecked_w F x15 r32 e34) rfl ?_
     refine wv (r := rSl 4 (List.map eTApiCell r32.1)) (o_extract rfl rfl) ?_
     refine wv (r := rI .i64 r32.2) (o_extract rfl rfl) ?_
     refine wa rfl ?_
     refine wa rfl ?_
     refine wl_x ?_
     refine wc_ret ?_
     obtain rfl := some_e h33
     exact wk_ret (r_2 Tryz.results8 (rv_t rfl) (rv_t rfl)) (sS (sS sN)) ⟨rfl, rfl⟩

end Go.Proofs.YtkalifgebccpcaaGreatDoor.Q

/-
 What functions compute, with checks: plain definitions, printed by a small program of ours (gq.py). No program in sight.
-/
namespace Go.Proofs.YtkalifgebccpcaaGreatDoor
open Go
set_option linter.unusedVariables false
def slEqual_b1 (a : (List TApiCell)) (b : (List TApiCell)) (x27 : Int) : Option (Stp (Int) (Out (Bool) (Unit))) :=
 cnd (decide (x27 < (a.length : Int))) (chk (inR x27 (a.length : Int)) <| chk (inR x27 (b.length : Int)) <| cnd (!(decide (((at' a x27).fKind) = ((at' b x27).fKind)) && decide (((at' a x27).fInt) = ((at' b x27).fInt)) && decide (((at' a x27).fStr) = ((at' b x27).fStr)) && decide (((at' a x27).fN) = ((at' b x27).fN)))) (some (.out (.ret false))) (chk (inK .i64 (x27 + 1)) <| some (.next (x27 + 1)))) (some (.out (.go ())))

def slEqual_k1  : Option (Bool) :=
 some true

def slEqual (F : Nat) (a : (List TApiCell)) (b : (List TApiCell)) : Option (Bool) :=
 cnd (!decide ((a.length : Int) = (b.length : Int))) (some false) (obn (lop (fun σ => slEqual_b1 a b σ) F 0) (oute fun ν => slEqual_k1 ))

def vSame (F : Nat) (a : (List TApiCell)) (b : (List TApiCell)) : Option (Bool) :=
 obn (slEqual F a b) fun r1 => some r1

def rSame_b1 (a : (List TApiCell)) (b : (List TApiCell)) (x27 : Int) : Option (Stp (Int) (Out (Bool) (Unit))) :=
 cnd (decide (x27 < (a.length : Int))) (chk (inR x27 (a.length : Int)) <| chk (inR x27 (b.length : Int)) <| cnd (!(decide (((at' a x27).fKind) = ((at' b x27).fKind)) && decide (((at' a x27).fInt) = ((at' b x27).fInt)) && decide (((at' a x27).fStr) = ((at' b x27).fStr)) && decide (((at' a x27).fN) = ((at' b x27).fN)))) (some (.out (.ret false))) (chk (inK .i64 (x27 + 1)) <| some (.next (x27 + 1)))) (some (.out (.go ())))

def rSame_k1  : Option (Bool) :=
 some true

def rSame (F : Nat) (a : (List TApiCell)) (b : (List TApiCell)) : Option (Bool) :=
 cnd (!decide ((a.length : Int) = (b.length : Int))) (some false) (obn (lop (fun σ => rSame_b1 a b σ) F 0) (oute fun ν => rSame_k1 ))

def lAwake (F : Nat)  : Option (Bool) :=
 obn (vInt F 1) fun r1 => obn (vNull) fun r4 => obn (vList F ([r1.1, r4] : List (List TApiCell))) fun r8 => obn (vStr F ([120] : Str)) fun r11 => obn (vMap F ([([97] : Str), ([98] : Str)] : List Str) ([r8.1, r11.1] : List (List TApiCell))) fun r16 => obn (vEncode F r16.1) fun r19 => obn (vDecode F r19.1) fun r22 => chk (imp (decide (r8.2 = 0)) (imp (decide (r16.2 = 0)) (imp (decide (r19.2 = 0)) (imp (decide (r22.2 = 0)) (imp (decide ((r16.1.length : Int) = 7)) (imp (decide (r19.1 = ([123, 34, 97, 34, 58, 91, 49, 44, 110, 117, 108, 108, 93, 44, 34, 98, 34, 58, 34, 120, 34, 125] : Str))) ((vSame F r22.1 r16.1).isSome))))))) <| chk (imp (decide (r8.2 = 0)) (imp (decide (r16.2 = 0)) (imp (decide (r19.2 = 0)) (imp (decide (r22.2 = 0)) (imp (decide ((r16.1.length : Int) = 7)) (imp (decide (r19.1 = ([123, 34, 97, 34, 58, 91, 49, 44, 110, 117, 108, 108, 93, 44, 34, 98, 34, 58, 34, 120, 34, 125] : Str))) (imp ((ov (vSame F r22.1 r16.1))) ((vDepth F r16.1).isSome)))))))) <| chk (imp (decide (r8.2 = 0)) (imp (decide (r16.2 = 0)) (imp (decide (r19.2 = 0)) (imp (decide (r22.2 = 0)) (imp (decide ((r16.1.length : Int) = 7)) (imp (decide (r19.1 = ([123, 34, 97, 34, 58, 91, 49, 44, 110, 117, 108, 108, 93, 44, 34, 98, 34, 58, 34, 120, 34, 125] : Str))) (imp ((ov (vSame F r22.1 r16.1))) (imp (decide ((ov (vDepth F r16.1)) = 3)) ((vCheck F ([] : List TApiCell)).isSome))))))))) <| some ((decide (r8.2 = 0)) && ((decide (r16.2 = 0)) && ((decide (r19.2 = 0)) && ((decide (r22.2 = 0)) && ((decide ((r16.1.length : Int) = 7)) && ((decide (r19.1 = ([123, 34, 97, 34, 58, 91, 49, 44, 110, 117, 108, 108, 93, 44, 34, 98, 34, 58, 34, 120, 34, 125] : Str))) && ((ov (vSame F r22.1 r16.1)) && ((decide ((ov (vDepth F r16.1)) = 3)) && (decide ((ov (vCheck F ([] : List TApiCell))) = 1))))))))))

end Go.Proofs.YtkalifgebccpcaaGreatDoor

/-
  Walks, printed by a small program of ours (gq.py).
-/
namespace Go.Proofs.YtkalifgebccpcaaGreatDoor.Q
open Go Go.RowKit
set_option linter.unusedVariables false
set_option linter.unusedSimpArgs false
set_option maxRecDepth 100000
set_option maxHeartbeats 4000000
theorem agg_eq63 {a0 b0 : Int} {a1 b1 : Int} {a2 b2 : Str} {a3 b3 : Int} (w : World) : (Op.equalIn 10000 63 (.agg #[.int .i64 a0, .int .i64 a1, .string (B a2), .int .i64 a3]) (.agg #[.int .i64 b0, .int .i64 b1, .string (B b2), .int .i64 b3])).run Tryz.prog w = .ok (decide (a0 = b0) && decide (a1 = b1) && decide (a2 = b2) && decide (a3 = b3)) w := by
  have hS : Tryz.prog.underlying 63 = some (.struct (Tryz.prog.fieldsOf 63)) := by kernel_rfl
  have hp : Tryz.prog.stoodInHeld 63 = false := by kernel_rfl
  have u3 := Tryz.underlying3
  have ia3 := Tryz.isAgg3
  have so3 := Tryz.sizeOf3
  have u9 := Tryz.underlying9
  have ia9 := Tryz.isAgg9
  have so9 := Tryz.sizeOf9
  have u61 := Tryz.underlying61
  have ia61 := Tryz.isAgg61
  have so61 := Tryz.sizeOf61
  rw [show (10000 : Nat) = 9999 + 1 from rfl, run_equalIn_agg w 9999 63 _ _ hS hp]
  simp only [Program.fieldsOf, Tryz.underlying63]
  go_simp
  simp only [B_toList]
  by_cases h0 : a0 = b0 <;> by_cases h1 : a1 = b1 <;> by_cases h2 : a2 = b2 <;> by_cases h3 : a3 = b3 <;> simp [h0, h1, h2, h3]
theorem o_agg_ne_63 {n : Nat} {c : Cx} {l : Fr} {H : List Ent} {d : Option Nat} {ty rty : TypeId} {pos : String} {af : Array Edge} {g : Option (Nat × Bool)} {x y : Operand} {a0 b0 : Int} {a1 b1 : Int} {a2 b2 : Str} {a3 b3 : Int} (hx : ev l x = some (rAgg [rI .i64 a0, rI .i64 a1, rS a2, rI .i64 a3])) (hy : ev l y = some (rAgg [rI .i64 b0, rI .i64 b1, rS b2, rI .i64 b3])) : ORun Tryz.prog n c l H { dst := d, op := .binOp .neq 63 x y rty, type := ty, pos := pos, after := af, guard := g } (rB (!(decide (a0 = b0) && decide (a1 = b1) && decide (a2 = b2) && decide (a3 = b3)))) := fun a w Z ha hw => by
  obtain ⟨us, e1, q1⟩ := ha.ev hx
  obtain ⟨vs, e2, q2⟩ := ha.ev hy
  have k1 := RpAll.eq_rv (us := [.int .i64 a0, .int .i64 a1, .string (B a2), .int .i64 a3]) q1
  have k2 := RpAll.eq_rv (us := [.int .i64 b0, .int .i64 b1, .string (B b2), .int .i64 b3]) q2
  subst k1; subst k2
  have hm : Tryz.prog.eqGuardType Tryz.prog.depth 63 = false := by kernel_rfl
  have hb := agg_eq63 (a0 := a0) (a1 := a1) (a2 := a2) (a3 := a3) (b0 := b0) (b1 := b1) (b2 := b2) (b3 := b3) w
  refine ⟨.bool (!(decide (a0 = b0) && decide (a1 = b1) && decide (a2 = b2) && decide (a3 = b3))), rfl, ?_⟩
  have hg := run_eqGuard_agg (P := Tryz.prog) w .neq 63 x y #[.int .i64 a0, .int .i64 a1, .string (B a2), .int .i64 a3] #[.int .i64 b0, .int .i64 b1, .string (B b2), .int .i64 b3] hm
  simp only [execOp, e1, e2, Sem.run_bind, hg, Result.andThen_ok, run_neq_struct, hb, Sem.run_pure]
theorem slEqual_w (F : Nat) (a : (List TApiCell)) (b : (List TApiCell)) (r : Bool) (h : slEqual F a b = some r) : Fn Tryz.prog GE 51 [rSl 4 (List.map eTApiCell a), rSl 4 (List.map eTApiCell b)] [] (fun R H => R = rB r ∧ H = []) := by
 refine enter (n := 26) Tryz.func51 rfl Tryz.ntmps51 rfl (fun w Z => ?_)
 refine wc_as (l' := [(0, rSl 4 (List.map eTApiCell a)), (1, rSl 4 (List.map eTApiCell b))]) (H' := []) rfl rfl ?_
 unfold slEqual at h
 refine wc_sr ?_
 refine wv (r := rB false) (o_assign rfl) ?_
 refine wl_x ?_
 refine wc_seq ?_
 refine wc_sr ?_
 refine wm rfl ?_
 refine wv (r := rI .i64 (a.length : Int)) (o_len_zt (ys := a) (enc := eTApiCell) Tryz.underlying23 rfl) ?_
 refine wm rfl ?_
 refine wv (r := rI .i64 (b.length : Int)) (o_len_zt (ys := b) (enc := eTApiCell) Tryz.underlying23 rfl) ?_
 refine wv (r := rB (!decide ((a.length : Int) = (b.length : Int)))) (o_ne rfl rfl) ?_
 refine wl_x ?_
 refine wc_cond (b := !decide ((a.length : Int) = (b.length : Int))) rfl (fun c1 => ?_) (fun c1 => ?_)
 ·have h2 := cnd_t c1 h
  refine wc_sr ?_
  refine wv (r := rB false) (o_assign rfl) ?_
  refine wl_x ?_
  refine wc_ret ?_
  refine wk_then_ret ?_
  obtain rfl := some_e h2
  exact wk_ret (r_1 Tryz.results51 (rv_t rfl)) sN ⟨rfl, rfl⟩
 ·have h3 := cnd_f c1 h
  refine wc_skip ?_
  refine wk_x ?_
  refine wc_seq ?_
  refine wc_sr ?_
  refine wm rfl ?_
  refine wv (r := rI .i64 (a.length : Int)) (o_len_zt (ys := a) (enc := eTApiCell) Tryz.underlying23 rfl) ?_
  refine wv (r := rI .i64 0) (o_move rfl) ?_
  refine wl_x ?_
  refine wc_block ?_
  obtain ⟨o40, eo41, hK42⟩ := obn_e h3
  refine wc_loop2 (S := Nat × (Int) × (Unit)) (V := (Unit) × (Unit)) 0 (fun σ => lop (fun σ => slEqual_b1 a b σ) σ.1 σ.2.1 = some o40) (fun σ => [(0, rSl 4 (List.map eTApiCell a)), (1, rSl 4 (List.map eTApiCell b)), (4, rB false), (12, rI .i64 (a.length : Int)), (13, rI .i64 σ.2.1)]) (fun σ => []) (fun σ => σ.1) (F, 0, ()) eo41 (Sub.c5 rfl rfl rfl rfl rfl Sub.nil) sN (fun σ => slEqual_k1  = some r) (fun σ => [(4, rB false)]) (fun σ => []) ?_ ?_
  ·rintro ⟨n48, x27, ⟨⟩⟩ hi46
   refine wc_as (l' := [(0, rSl 4 (List.map eTApiCell a)), (1, rSl 4 (List.map eTApiCell b)), (4, rB false), (12, rI .i64 (a.length : Int)), (13, rI .i64 x27)]) (H' := []) rfl rfl ?_
   obtain ⟨m45, rfl, t43, h47, ht44⟩ := lop_e hi46
   replace h47 : slEqual_b1 a b x27 = some t43 := h47
   unfold slEqual_b1 at h47
   refine wc_sr ?_
   refine wv (r := rB (decide (x27 < (a.length : Int)))) (o_lt rfl rfl) ?_
   refine wl_x ?_
   refine wc_seq ?_
   refine wc_cond (b := decide (x27 < (a.length : Int))) rfl (fun c49 => ?_) (fun c49 => ?_)
   ·have h50 := cnd_t c49 h47
    refine wc_skip ?_
    refine wk_x ?_
    refine wc_seq ?_
    refine wc_block ?_
    refine wc_sr ?_
    refine wm rfl ?_
    refine wa rfl ?_
    refine wl_x ?_
    refine wc_seq ?_
    obtain ⟨g51, h52⟩ := chk_e h50
    obtain ⟨g53, h54⟩ := chk_e h52
    refine wc_rd [⟨[], rSl 4 (List.map eTApiCell a), 0⟩, ⟨[], rI .i64 x27, 0⟩, ⟨[0, 1], rAt (eTApiCell (at' a x27)), 0⟩, ⟨[2], rAgg (eTApiCell (at' a x27)), 0⟩, ⟨[], rSl 4 (List.map eTApiCell b), 0⟩, ⟨[], rI .i64 x27, 0⟩, ⟨[4, 5], rAt (eTApiCell (at' b x27)), 0⟩, ⟨[6], rAgg (eTApiCell (at' b x27)), 0⟩, ⟨[3, 7], rB (!(decide (((at' a x27).fKind) = ((at' b x27).fKind)) && decide (((at' a x27).fInt) = ((at' b x27).fInt)) && decide (((at' a x27).fStr) = ((at' b x27).fStr)) && decide (((at' a x27).fN) = ((at' b x27).fN)))), 0⟩] (rle [(10, [])]) [(0, rSl 4 (List.map eTApiCell a)), (1, rSl 4 (List.map eTApiCell b)), (4, rB false), (5, rI .i64 x27), (12, rI .i64 (a.length : Int)), (13, rI .i64 x27), (14, rB (decide (x27 < (a.length : Int)))), (15, rI .i64 x27)] (by kernel_rfl) (by kernel_rfl) (Sub.c rfl (Sub.c rfl (Sub.c rfl (Sub.c5 rfl rfl rfl rfl rfl Sub.nil)))) rfl rfl ?_ ?_
    ·refine obl_q rfl (fun H => ok_v (o_move rfl)) ?_
     refine obl_q rfl (fun H => ok_v (o_move rfl)) ?_
     refine obl_q rfl (fun H => ok_v (r := rAt (eTApiCell (at' a x27))) (o_ix_z (enc := eTApiCell) (ys := a) Tryz.underlying23 Tryz.sizeOf63 rfl rfl g51)) ?_
     refine obl_q rfl (fun H => ok_v (r := rAgg (eTApiCell (at' a x27))) (o_load_za Tryz.isAgg63 Tryz.sizeOf63 rfl rfl rfl)) ?_
     refine obl_q rfl (fun H => ok_v (o_move rfl)) ?_
     refine obl_q rfl (fun H => ok_v (o_move rfl)) ?_
     refine obl_q rfl (fun H => ok_v (r := rAt (eTApiCell (at' b x27))) (o_ix_z (enc := eTApiCell) (ys := b) Tryz.underlying23 Tryz.sizeOf63 rfl rfl g53)) ?_
     refine obl_q rfl (fun H => ok_v (r := rAgg (eTApiCell (at' b x27))) (o_load_za Tryz.isAgg63 Tryz.sizeOf63 rfl rfl rfl)) ?_
     refine obl_q rfl (fun H => ok_v (r := rB (!(decide (((at' a x27).fKind) = ((at' b x27).fKind)) && decide (((at' a x27).fInt) = ((at' b x27).fInt)) && decide (((at' a x27).fStr) = ((at' b x27).fStr)) && decide (((at' a x27).fN) = ((at' b x27).fN))))) (o_agg_ne_63 rfl rfl)) ?_
     exact obl_e
    refine wk_as (l' := [(16, rSl 4 (List.map eTApiCell a)), (17, rI .i64 x27), (18, rAt (eTApiCell (at' a x27))), (19, rAgg (eTApiCell (at' a x27))), (20, rSl 4 (List.map eTApiCell b)), (21, rI .i64 x27), (22, rAt (eTApiCell (at' b x27))), (23, rAgg (eTApiCell (at' b x27))), (24, rB (!(decide (((at' a x27).fKind) = ((at' b x27).fKind)) && decide (((at' a x27).fInt) = ((at' b x27).fInt)) && decide (((at' a x27).fStr) = ((at' b x27).fStr)) && decide (((at' a x27).fN) = ((at' b x27).fN))))), (0, rSl 4 (List.map eTApiCell a)), (1, rSl 4 (List.map eTApiCell b)), (4, rB false), (5, rI .i64 x27), (12, rI .i64 (a.length : Int)), (13, rI .i64 x27), (14, rB (decide (x27 < (a.length : Int)))), (15, rI .i64 x27)]) (H' := []) rfl rfl ?_
    refine wk_x ?_
    refine wc_cond (b := !(decide (((at' a x27).fKind) = ((at' b x27).fKind)) && decide (((at' a x27).fInt) = ((at' b x27).fInt)) && decide (((at' a x27).fStr) = ((at' b x27).fStr)) && decide (((at' a x27).fN) = ((at' b x27).fN)))) rfl (fun c55 => ?_) (fun c55 => ?_)
    ·have h56 := cnd_t c55 h54
     refine wc_sr ?_
     refine wv (r := rB false) (o_assign rfl) ?_
     refine wl_x ?_
     refine wc_ret ?_
     refine wk_in_ret ?_
     refine wk_then_ret ?_
     refine wk_then_ret ?_
     refine wk_cut_ret ?_
     have h57 := stp_ret h56 ht44 hK42
     refine wk_in_ret ?_
     refine wk_then_ret ?_
     obtain rfl := some_e h57
     exact wk_ret (r_1 Tryz.results51 (rv_t rfl)) sN ⟨rfl, rfl⟩
    ·have h58 := cnd_f c55 h54
     refine wc_skip ?_
     refine wk_in_norm ?_
     refine wk_x ?_
     refine wc_region ?_
     obtain ⟨g59, h60⟩ := chk_e h58
     refine wv (r := rI .i64 (x27 + 1)) (o_add rfl rfl g59) ?_
     refine wm rfl ?_
     refine wl_nil ?_
     have h61 := stp_next h60 ht44
     exact wk_then (wk_some (m45, x27 + 1, ()) ⟨h61, Nat.lt_succ_self _⟩ (Sub.c5 rfl rfl rfl rfl rfl Sub.nil) sN)
   ·have h62 := cnd_f c49 h47
    refine wc_exit ?_
    refine wk_then_exit ?_
    have h63 := stp_go h62 ht44 hK42
    exact wk_then_exit (wk_cut_hit (wk_some ((), ()) h63 (Sub.c rfl Sub.nil) sN))
  ·rintro ⟨⟨⟩, ⟨⟩⟩ h64
   refine wk_as (l' := [(4, rB false)]) (H' := []) rfl rfl ?_
   replace h64 : slEqual_k1  = some r := h64
   unfold slEqual_k1 at h64
   refine wk_in_hit ?_
   refine wk_x ?_
   refine wc_sr ?_
   refine wv (r := rB true) (o_assign rfl) ?_
   refine wl_x ?_
   refine wc_ret ?_
   obtain rfl := some_e h64
   exact wk_ret (r_1 Tryz.results51 (rv_t rfl)) sN ⟨rfl, rfl⟩

theorem vSame_w (F : Nat) (a : (List TApiCell)) (b : (List TApiCell)) (r : Bool) (h : vSame F a b = some r) : Fn Tryz.prog GE 28 [rSl 4 (List.map eTApiCell a), rSl 4 (List.map eTApiCell b)] [] (fun R H => R = rB r ∧ H = []) := by
 refine enter (n := 8) Tryz.func28 rfl Tryz.ntmps28 rfl (fun w Z => ?_)
 refine wc_as (l' := [(0, rSl 4 (List.map eTApiCell a)), (1, rSl 4 (List.map eTApiCell b))]) (H' := []) rfl rfl ?_
 unfold vSame at h
 refine wc_sr ?_
 refine wv (r := rB false) (o_assign rfl) ?_
 refine wl_y ?_
 refine wm rfl ?_
 refine wm rfl ?_
 obtain ⟨r1, e3, h2⟩ := obn_e h
 refine wc0 Tryz.call51 (slEqual_w F a b r1 e3) rfl ?_
 refine wa rfl ?_
 refine wl_x ?_
 refine wc_ret ?_
 obtain rfl := some_e h2
 exact wk_ret (r_1 Tryz.results28 (rv_t rfl)) sN ⟨rfl, rfl⟩

theorem rSame_w (F : Nat) (a : (List TApiCell)) (b : (List TApiCell)) (r : Bool) (h : rSame F a b = some r) : Fn Tryz.prog GE 10 [rSl 4 (List.map eTApiCell a), rSl 4 (List.map eTApiCell b)] [] (fun R H => R = rB r ∧ H = []) := by
 refine enter (n := 26) Tryz.func10 rfl Tryz.ntmps10 rfl (fun w Z => ?_)
 refine wc_as (l' := [(0, rSl 4 (List.map eTApiCell a)), (1, rSl 4 (List.map eTApiCell b))]) (H' := []) rfl rfl ?_
 unfold rSame at h
 refine wc_sr ?_
 refine wv (r := rB false) (o_assign rfl) ?_
 refine wl_x ?_
 refine wc_seq ?_
 refine wc_sr ?_
 refine wm rfl ?_
 refine wv (r := rI .i64 (a.length : Int)) (o_len_zt (ys := a) (enc := eTApiCell) Tryz.underlying23 rfl) ?_
 refine wm rfl ?_
 refine wv (r := rI .i64 (b.length : Int)) (o_len_zt (ys := b) (enc := eTApiCell) Tryz.underlying23 rfl) ?_
 refine wv (r := rB (!decide ((a.length : Int) = (b.length : Int)))) (o_ne rfl rfl) ?_
 refine wl_x ?_
 refine wc_cond (b := !decide ((a.length : Int) = (b.length : Int))) rfl (fun c1 => ?_) (fun c1 => ?_)
 ·have h2 := cnd_t c1 h
  refine wc_sr ?_
  refine wv (r := rB false) (o_assign rfl) ?_
  refine wl_x ?_
  refine wc_ret ?_
  refine wk_then_ret ?_
  obtain rfl := some_e h2
  exact wk_ret (r_1 Tryz.results10 (rv_t rfl)) sN ⟨rfl, rfl⟩
 ·have h3 := cnd_f c1 h
  refine wc_skip ?_
  refine wk_x ?_
  refine wc_seq ?_
  refine wc_sr ?_
  refine wv (r := rI .i64 0) (o_assign rfl) ?_
  refine wl_x ?_
  refine wc_block ?_
  obtain ⟨o40, eo41, hK42⟩ := obn_e h3
  refine wc_loop2 (S := Nat × (Int) × (Unit)) (V := (Unit) × (Unit)) 0 (fun σ => lop (fun σ => rSame_b1 a b σ) σ.1 σ.2.1 = some o40) (fun σ => [(0, rSl 4 (List.map eTApiCell a)), (1, rSl 4 (List.map eTApiCell b)), (4, rB false), (5, rI .i64 σ.2.1)]) (fun σ => []) (fun σ => σ.1) (F, 0, ()) eo41 (Sub.c rfl (Sub.c rfl (Sub.c rfl (Sub.c rfl Sub.nil)))) sN (fun σ => rSame_k1  = some r) (fun σ => [(4, rB false)]) (fun σ => []) ?_ ?_
  ·rintro ⟨n48, x27, ⟨⟩⟩ hi46
   refine wc_as (l' := [(0, rSl 4 (List.map eTApiCell a)), (1, rSl 4 (List.map eTApiCell b)), (4, rB false), (5, rI .i64 x27)]) (H' := []) rfl rfl ?_
   obtain ⟨m45, rfl, t43, h47, ht44⟩ := lop_e hi46
   replace h47 : rSame_b1 a b x27 = some t43 := h47
   unfold rSame_b1 at h47
   refine wc_seq ?_
   refine wc_sr ?_
   refine wm rfl ?_
   refine wm rfl ?_
   refine wv (r := rI .i64 (a.length : Int)) (o_len_zt (ys := a) (enc := eTApiCell) Tryz.underlying23 rfl) ?_
   refine wv (r := rB (decide (x27 < (a.length : Int)))) (o_lt rfl rfl) ?_
   refine wl_x ?_
   refine wc_cond (b := decide (x27 < (a.length : Int))) rfl (fun c49 => ?_) (fun c49 => ?_)
   ·have h50 := cnd_t c49 h47
    refine wc_skip ?_
    refine wk_x ?_
    refine wc_seq ?_
    refine wc_block ?_
    refine wc_seq ?_
    obtain ⟨g51, h52⟩ := chk_e h50
    obtain ⟨g53, h54⟩ := chk_e h52
    refine wc_rd [⟨[], rSl 4 (List.map eTApiCell a), 0⟩, ⟨[], rI .i64 x27, 0⟩, ⟨[0, 1], rAt (eTApiCell (at' a x27)), 0⟩, ⟨[2], rAgg (eTApiCell (at' a x27)), 0⟩, ⟨[], rSl 4 (List.map eTApiCell b), 0⟩, ⟨[], rI .i64 x27, 0⟩, ⟨[4, 5], rAt (eTApiCell (at' b x27)), 0⟩, ⟨[6], rAgg (eTApiCell (at' b x27)), 0⟩, ⟨[3, 7], rB (!(decide (((at' a x27).fKind) = ((at' b x27).fKind)) && decide (((at' a x27).fInt) = ((at' b x27).fInt)) && decide (((at' a x27).fStr) = ((at' b x27).fStr)) && decide (((at' a x27).fN) = ((at' b x27).fN)))), 0⟩] (rle [(10, [])]) [(0, rSl 4 (List.map eTApiCell a)), (1, rSl 4 (List.map eTApiCell b)), (4, rB false), (5, rI .i64 x27), (11, rI .i64 x27), (12, rSl 4 (List.map eTApiCell a)), (13, rI .i64 (a.length : Int)), (14, rB (decide (x27 < (a.length : Int))))] (by kernel_rfl) (by kernel_rfl) (Sub.c rfl (Sub.c rfl (Sub.c rfl (Sub.c5 rfl rfl rfl rfl rfl Sub.nil)))) rfl rfl ?_ ?_
    ·refine obl_q rfl (fun H => ok_v (o_move rfl)) ?_
     refine obl_q rfl (fun H => ok_v (o_move rfl)) ?_
     refine obl_q rfl (fun H => ok_v (r := rAt (eTApiCell (at' a x27))) (o_ix_z (enc := eTApiCell) (ys := a) Tryz.underlying23 Tryz.sizeOf63 rfl rfl g51)) ?_
     refine obl_q rfl (fun H => ok_v (r := rAgg (eTApiCell (at' a x27))) (o_load_za Tryz.isAgg63 Tryz.sizeOf63 rfl rfl rfl)) ?_
     refine obl_q rfl (fun H => ok_v (o_move rfl)) ?_
     refine obl_q rfl (fun H => ok_v (o_move rfl)) ?_
     refine obl_q rfl (fun H => ok_v (r := rAt (eTApiCell (at' b x27))) (o_ix_z (enc := eTApiCell) (ys := b) Tryz.underlying23 Tryz.sizeOf63 rfl rfl g53)) ?_
     refine obl_q rfl (fun H => ok_v (r := rAgg (eTApiCell (at' b x27))) (o_load_za Tryz.isAgg63 Tryz.sizeOf63 rfl rfl rfl)) ?_
     refine obl_q rfl (fun H => ok_v (r := rB (!(decide (((at' a x27).fKind) = ((at' b x27).fKind)) && decide (((at' a x27).fInt) = ((at' b x27).fInt)) && decide (((at' a x27).fStr) = ((at' b x27).fStr)) && decide (((at' a x27).fN) = ((at' b x27).fN))))) (o_agg_ne_63 rfl rfl)) ?_
     exact obl_e
    refine wk_as (l' := [(17, rSl 4 (List.map eTApiCell a)), (18, rI .i64 x27), (19, rAt (eTApiCell (at' a x27))), (20, rAgg (eTApiCell (at' a x27))), (21, rSl 4 (List.map eTApiCell b)), (22, rI .i64 x27), (23, rAt (eTApiCell (at' b x27))), (24, rAgg (eTApiCell (at' b x27))), (25, rB (!(decide (((at' a x27).fKind) = ((at' b x27).fKind)) && decide (((at' a x27).fInt) = ((at' b x27).fInt)) && decide (((at' a x27).fStr) = ((at' b x27).fStr)) && decide (((at' a x27).fN) = ((at' b x27).fN))))), (0, rSl 4 (List.map eTApiCell a)), (1, rSl 4 (List.map eTApiCell b)), (4, rB false), (5, rI .i64 x27), (11, rI .i64 x27), (12, rSl 4 (List.map eTApiCell a)), (13, rI .i64 (a.length : Int)), (14, rB (decide (x27 < (a.length : Int))))]) (H' := []) rfl rfl ?_
    refine wk_x ?_
    refine wc_cond (b := !(decide (((at' a x27).fKind) = ((at' b x27).fKind)) && decide (((at' a x27).fInt) = ((at' b x27).fInt)) && decide (((at' a x27).fStr) = ((at' b x27).fStr)) && decide (((at' a x27).fN) = ((at' b x27).fN)))) rfl (fun c55 => ?_) (fun c55 => ?_)
    ·have h56 := cnd_t c55 h54
     refine wc_sr ?_
     refine wv (r := rB false) (o_assign rfl) ?_
     refine wl_x ?_
     refine wc_ret ?_
     refine wk_in_ret ?_
     refine wk_then_ret ?_
     refine wk_then_ret ?_
     refine wk_cut_ret ?_
     have h57 := stp_ret h56 ht44 hK42
     refine wk_in_ret ?_
     refine wk_then_ret ?_
     obtain rfl := some_e h57
     exact wk_ret (r_1 Tryz.results10 (rv_t rfl)) sN ⟨rfl, rfl⟩
    ·have h58 := cnd_f c55 h54
     refine wc_skip ?_
     refine wk_in_norm ?_
     refine wk_x ?_
     refine wc_region ?_
     refine wm rfl ?_
     obtain ⟨g59, h60⟩ := chk_e h58
     refine wv (r := rI .i64 (x27 + 1)) (o_add rfl rfl g59) ?_
     refine wa rfl ?_
     refine wl_nil ?_
     have h61 := stp_next h60 ht44
     exact wk_then (wk_some (m45, x27 + 1, ()) ⟨h61, Nat.lt_succ_self _⟩ (Sub.c rfl (Sub.c rfl (Sub.c rfl (Sub.c rfl Sub.nil)))) sN)
   ·have h62 := cnd_f c49 h47
    refine wc_exit ?_
    refine wk_then_exit ?_
    have h63 := stp_go h62 ht44 hK42
    exact wk_then_exit (wk_cut_hit (wk_some ((), ()) h63 (Sub.c rfl Sub.nil) sN))
  ·rintro ⟨⟨⟩, ⟨⟩⟩ h64
   refine wk_as (l' := [(4, rB false)]) (H' := []) rfl rfl ?_
   replace h64 : rSame_k1  = some r := h64
   unfold rSame_k1 at h64
   refine wk_in_hit ?_
   refine wk_x ?_
   refine wc_sr ?_
   refine wv (r := rB true) (o_assign rfl) ?_
   refine wl_x ?_
   refine wc_ret ?_
   obtain rfl := some_e h64
   exact wk_ret (r_1 Tryz.results10 (rv_t rfl)) sN ⟨rfl, rfl⟩

theorem lAwake_w (F : Nat)  (r : Bool) (h : lAwake F = some r) : Fn Tryz.prog GE 7 [] [] (fun R H => R = rB r ∧ H = []) := by
 refine enter (n := 83) Tryz.func7 rfl Tryz.ntmps7 rfl (fun w Z => ?_)
 refine wc_as (l' := []) (H' := []) rfl rfl ?_
 unfold lAwake at h
 refine wc_sr ?_
 refine wv (r := rB false) (o_assign rfl) ?_
 refine wl_y ?_
 obtain ⟨r1, e3, h2⟩ := obn_e h
 refine wc0 Tryz.call13 (vInt_w F 1 r1 e3) rfl ?_
 refine wm rfl ?_
 refine wv (r := rSl 4 (List.map eTApiCell r1.1)) (o_extract rfl rfl) ?_
 refine wv (r := rI .i64 r1.2) (o_extract rfl rfl) ?_
 refine wa rfl ?_
 refine wa rfl ?_
 refine wl_y ?_
 refine wm rfl ?_
 obtain ⟨r4, e6, h5⟩ := obn_e h2
 refine wc0 Tryz.call21 (vNull_w r4 e6) rfl ?_
 refine w_buildSlice (ys := ([r1.1, r4] : List (List TApiCell))) (enc := eL_TApiCell) (css := [[rSl 4 (List.map eTApiCell r1.1)], [rSl 4 (List.map eTApiCell r4)]]) (xs := [.tmp 18, .tmp 19]) Tryz.underlying30 Tryz.sizeOf23 Tryz.zeroValue23 rfl rfl rfl ⟨Cel.one rfl (Up.refl _), Cel.one rfl (Up.refl _), trivial⟩ rfl eL_TApiCell_len rfl rfl rfl (fun b7 => ?_)
 refine WL.freeze (i := 0) rfl ?_
 refine WL.up (d := 20) (r := rSl 1 (List.map eL_TApiCell ([r1.1, r4] : List (List TApiCell)))) rfl (Up.fact (i := 0) rfl) ?_
 obtain ⟨r8, e10, h9⟩ := obn_e h5
 refine wc0 Tryz.call17 (vList_w F ([r1.1, r4] : List (List TApiCell)) r8 e10) rfl ?_
 refine wm rfl ?_
 refine wv (r := rSl 4 (List.map eTApiCell r8.1)) (o_extract rfl rfl) ?_
 refine wv (r := rI .i64 r8.2) (o_extract rfl rfl) ?_
 refine wa rfl ?_
 refine wa rfl ?_
 refine wl_y ?_
 obtain ⟨r11, e13, h12⟩ := obn_e h9
 refine wc0 Tryz.call15 (vStr_w F ([120] : Str) r11 e13) rfl ?_
 refine wm rfl ?_
 refine wv (r := rSl 4 (List.map eTApiCell r11.1)) (o_extract rfl rfl) ?_
 refine wv (r := rI .i64 r11.2) (o_extract rfl rfl) ?_
 refine wa rfl ?_
 refine wa rfl ?_
 refine wl_y ?_
 refine w_buildSlice (ys := ([([97] : Str), ([98] : Str)] : List Str)) (enc := eS) (css := [[rS ([97] : Str)], [rS ([98] : Str)]]) (xs := [.const (.string ⟨#[97]⟩), .const (.string ⟨#[98]⟩)]) Tryz.underlying29 Tryz.sizeOf9 Tryz.zeroValue9 rfl rfl rfl ⟨Cel.one rfl (Up.refl _), Cel.one rfl (Up.refl _), trivial⟩ rfl eS_len rfl rfl rfl (fun b14 => ?_)
 refine wm rfl ?_
 refine wm rfl ?_
 refine w_buildSlice (ys := ([r8.1, r11.1] : List (List TApiCell))) (enc := eL_TApiCell) (css := [[rSl 4 (List.map eTApiCell r8.1)], [rSl 4 (List.map eTApiCell r11.1)]]) (xs := [.tmp 30, .tmp 31]) Tryz.underlying30 Tryz.sizeOf23 Tryz.zeroValue23 rfl rfl rfl ⟨Cel.one rfl (Up.refl _), Cel.one rfl (Up.refl _), trivial⟩ rfl eL_TApiCell_len rfl rfl rfl (fun b15 => ?_)
 refine WL.freeze (i := 1) rfl ?_
 refine WL.up (d := 29) (r := rSl 1 (List.map eS ([([97] : Str), ([98] : Str)] : List Str))) rfl (Up.fact (i := 0) rfl) ?_
 refine WL.freeze (i := 1) rfl ?_
 refine WL.up (d := 32) (r := rSl 1 (List.map eL_TApiCell ([r8.1, r11.1] : List (List TApiCell)))) rfl (Up.fact (i := 0) rfl) ?_
 obtain ⟨r16, e18, h17⟩ := obn_e h12
 refine wc0 Tryz.call19 (vMap_w F ([([97] : Str), ([98] : Str)] : List Str) ([r8.1, r11.1] : List (List TApiCell)) r16 e18) rfl ?_
 refine wm rfl ?_
 refine wv (r := rSl 4 (List.map eTApiCell r16.1)) (o_extract rfl rfl) ?_
 refine wv (r := rI .i64 r16.2) (o_extract rfl rfl) ?_
 refine wa rfl ?_
 refine wa rfl ?_
 refine wl_y ?_
 refine wm rfl ?_
 obtain ⟨r19, e21, h20⟩ := obn_e h17
 refine wc0 Tryz.call41 (vEncode_w F r16.1 r19 e21) rfl ?_
 refine wm rfl ?_
 refine wv (r := rS r19.1) (o_extract rfl rfl) ?_
 refine wv (r := rI .i64 r19.2) (o_extract rfl rfl) ?_
 refine wa rfl ?_
 refine wa rfl ?_
 refine wl_y ?_
 refine wm rfl ?_
 obtain ⟨r22, e24, h23⟩ := obn_e h20
 refine wc0 Tryz.call8 (vDecode_w F r19.1 r22 e24) rfl ?_
 refine wm rfl ?_
 refine wv (r := rSl 4 (List.map eTApiCell r22.1)) (o_extract rfl rfl) ?_
 refine wv (r := rI .i64 r22.2) (o_extract rfl rfl) ?_
 refine wa rfl ?_
 refine wa rfl ?_
 refine wl_x ?_
 obtain ⟨g25, h26⟩ := chk_e h23
 obtain ⟨g27, h28⟩ := chk_e h26
 obtain ⟨g29, h30⟩ := chk_e h28
 refine wc_seq_mid [(0, rB ((decide (r8.2 = 0)) && ((decide (r16.2 = 0)) && ((decide (r19.2 = 0)) && ((decide (r22.2 = 0)) && ((decide ((r16.1.length : Int) = 7)) && ((decide (r19.1 = ([123, 34, 97, 34, 58, 91, 49, 44, 110, 117, 108, 108, 93, 44, 34, 98, 34, 58, 34, 120, 34, 125] : Str))) && ((ov (vSame F r22.1 r16.1)) && ((decide ((ov (vDepth F r16.1)) = 3)) && (decide ((ov (vCheck F ([] : List TApiCell))) = 1)))))))))))] [] ?_ ?_
 ·refine wc_region ?_
  refine wm rfl ?_
  refine wv (r := rB (decide (r8.2 = 0))) (o_eq rfl rfl) ?_
  refine wm rfl ?_
  refine bsplit (decide (r8.2 = 0)) (fun c31 => ?_) (fun c31 => ?_)
  ·refine wl_on rfl rfl c31 ?_
   refine wm rfl ?_
   refine wl_on rfl rfl c31 ?_
   refine wv (r := rB (decide (r16.2 = 0))) (o_eq rfl rfl) ?_
   refine wpt rfl c31 rfl ?_
   refine wm rfl ?_
   refine bsplit (decide (r16.2 = 0)) (fun c32 => ?_) (fun c32 => ?_)
   ·refine wl_on rfl rfl c32 ?_
    refine wm rfl ?_
    refine wl_on rfl rfl c32 ?_
    refine wv (r := rB (decide (r19.2 = 0))) (o_eq rfl rfl) ?_
    refine wpt rfl c32 rfl ?_
    refine wm rfl ?_
    refine bsplit (decide (r19.2 = 0)) (fun c33 => ?_) (fun c33 => ?_)
    ·refine wl_on rfl rfl c33 ?_
     refine wm rfl ?_
     refine wl_on rfl rfl c33 ?_
     refine wv (r := rB (decide (r22.2 = 0))) (o_eq rfl rfl) ?_
     refine wpt rfl c33 rfl ?_
     refine wm rfl ?_
     refine bsplit (decide (r22.2 = 0)) (fun c34 => ?_) (fun c34 => ?_)
     ·refine wl_on rfl rfl c34 ?_
      refine wm rfl ?_
      refine wl_on rfl rfl c34 ?_
      refine wv (r := rI .i64 (r16.1.length : Int)) (o_len_zt (ys := r16.1) (enc := eTApiCell) Tryz.underlying23 rfl) ?_
      refine wl_on rfl rfl c34 ?_
      refine wv (r := rB (decide ((r16.1.length : Int) = 7))) (o_eq rfl rfl) ?_
      refine wpt rfl c34 rfl ?_
      refine wm rfl ?_
      refine bsplit (decide ((r16.1.length : Int) = 7)) (fun c35 => ?_) (fun c35 => ?_)
      ·refine wl_on rfl rfl c35 ?_
       refine wm rfl ?_
       refine wl_on rfl rfl c35 ?_
       refine wv (r := rB (decide (r19.1 = ([123, 34, 97, 34, 58, 91, 49, 44, 110, 117, 108, 108, 93, 44, 34, 98, 34, 58, 34, 120, 34, 125] : Str)))) (o_seq rfl rfl) ?_
       refine wpt rfl c35 rfl ?_
       refine wm rfl ?_
       refine bsplit (decide (r19.1 = ([123, 34, 97, 34, 58, 91, 49, 44, 110, 117, 108, 108, 93, 44, 34, 98, 34, 58, 34, 120, 34, 125] : Str))) (fun c36 => ?_) (fun c36 => ?_)
       ·refine wl_on rfl rfl c36 ?_
        refine wm rfl ?_
        refine wl_on rfl rfl c36 ?_
        refine wm rfl ?_
        refine wl_on rfl rfl c36 ?_
        refine wc0 Tryz.call28 (vSame_w F r22.1 r16.1 (ov (vSame F r22.1 r16.1)) (ov_e (imp_t (imp_t (imp_t (imp_t (imp_t (imp_t g25 c31) c32) c33) c34) c35) c36))) rfl ?_
        refine wpt rfl c36 rfl ?_
        refine wm rfl ?_
        refine bsplit ((ov (vSame F r22.1 r16.1))) (fun c37 => ?_) (fun c37 => ?_)
        ·refine wl_on rfl rfl c37 ?_
         refine wm rfl ?_
         refine wl_on rfl rfl c37 ?_
         refine wc0 Tryz.call42 (vDepth_w F r16.1 (ov (vDepth F r16.1)) (ov_e (imp_t (imp_t (imp_t (imp_t (imp_t (imp_t (imp_t g27 c31) c32) c33) c34) c35) c36) c37))) rfl ?_
         refine wl_on rfl rfl c37 ?_
         refine wv (r := rB (decide ((ov (vDepth F r16.1)) = 3))) (o_eq rfl rfl) ?_
         refine wpt rfl c37 rfl ?_
         refine wm rfl ?_
         refine bsplit (decide ((ov (vDepth F r16.1)) = 3)) (fun c38 => ?_) (fun c38 => ?_)
         ·refine wl_on rfl rfl c38 ?_
          refine w_call0 (rs := [rv (.slice none 0 0)]) (r := rI .i64 (ov (vCheck F ([] : List TApiCell)))) Tryz.call43 rfl (Fn.args (vCheck_w F ([] : List TApiCell) (ov (vCheck F ([] : List TApiCell))) (ov_e (imp_t (imp_t (imp_t (imp_t (imp_t (imp_t (imp_t (imp_t g29 c31) c32) c33) c34) c35) c36) c37) c38))) ⟨Rle.nil _, trivial⟩) rfl rfl ?_
          refine wl_on rfl rfl c38 ?_
          refine wv (r := rB (decide ((ov (vCheck F ([] : List TApiCell))) = 1))) (o_eq rfl rfl) ?_
          refine wpt rfl c38 rfl ?_
          refine wa rfl ?_
          refine wl_nil ?_
          exact wk_then (wk_mid (Sub.c (by first | rfl | (simp only [c31, c32, c33, c34, c35, c36, c37, c38]; rfl) | simp [c31, c32, c33, c34, c35, c36, c37, c38]) Sub.nil) (sS (sS (sS sN))))
         ·refine wl_off rfl rfl c38 rfl ?_
          refine wl_off rfl rfl c38 rfl ?_
          refine wv (r := rB false) (o_pick_f (b := decide ((ov (vDepth F r16.1)) = 3)) rfl c38 rfl) ?_
          refine wa rfl ?_
          refine wl_nil ?_
          exact wk_then (wk_mid (Sub.c (by first | rfl | (simp only [c31, c32, c33, c34, c35, c36, c37, c38]; rfl) | simp [c31, c32, c33, c34, c35, c36, c37, c38]) Sub.nil) (sS (sS (sS sN))))
        ·refine wl_off rfl rfl c37 rfl ?_
         refine wl_off rfl rfl c37 rfl ?_
         refine wl_off rfl rfl c37 rfl ?_
         refine wv (r := rB false) (o_pick_f (b := (ov (vSame F r22.1 r16.1))) rfl c37 rfl) ?_
         refine wm rfl ?_
         refine wl_off (b := false) rfl rfl rfl rfl ?_
         refine wl_off (b := false) rfl rfl rfl rfl ?_
         refine wv (r := rB false) (o_pick_f (b := false) rfl rfl rfl) ?_
         refine wa rfl ?_
         refine wl_nil ?_
         exact wk_then (wk_mid (Sub.c (by first | rfl | (simp only [c31, c32, c33, c34, c35, c36, c37]; rfl) | simp [c31, c32, c33, c34, c35, c36, c37]) Sub.nil) (sS (sS (sS sN))))
       ·refine wl_off rfl rfl c36 rfl ?_
        refine wl_off rfl rfl c36 rfl ?_
        refine wl_off rfl rfl c36 rfl ?_
        refine wv (r := rB false) (o_pick_f (b := decide (r19.1 = ([123, 34, 97, 34, 58, 91, 49, 44, 110, 117, 108, 108, 93, 44, 34, 98, 34, 58, 34, 120, 34, 125] : Str))) rfl c36 rfl) ?_
        refine wm rfl ?_
        refine wl_off (b := false) rfl rfl rfl rfl ?_
        refine wl_off (b := false) rfl rfl rfl rfl ?_
        refine wl_off (b := false) rfl rfl rfl rfl ?_
        refine wv (r := rB false) (o_pick_f (b := false) rfl rfl rfl) ?_
        refine wm rfl ?_
        refine wl_off (b := false) rfl rfl rfl rfl ?_
        refine wl_off (b := false) rfl rfl rfl rfl ?_
        refine wv (r := rB false) (o_pick_f (b := false) rfl rfl rfl) ?_
        refine wa rfl ?_
        refine wl_nil ?_
        exact wk_then (wk_mid (Sub.c (by first | rfl | (simp only [c31, c32, c33, c34, c35, c36]; rfl) | simp [c31, c32, c33, c34, c35, c36]) Sub.nil) (sS (sS (sS sN))))
      ·refine wl_off rfl rfl c35 rfl ?_
       refine wl_off rfl rfl c35 rfl ?_
       refine wv (r := rB false) (o_pick_f (b := decide ((r16.1.length : Int) = 7)) rfl c35 rfl) ?_
       refine wm rfl ?_
       refine wl_off (b := false) rfl rfl rfl rfl ?_
       refine wl_off (b := false) rfl rfl rfl rfl ?_
       refine wl_off (b := false) rfl rfl rfl rfl ?_
       refine wv (r := rB false) (o_pick_f (b := false) rfl rfl rfl) ?_
       refine wm rfl ?_
       refine wl_off (b := false) rfl rfl rfl rfl ?_
       refine wl_off (b := false) rfl rfl rfl rfl ?_
       refine wl_off (b := false) rfl rfl rfl rfl ?_
       refine wv (r := rB false) (o_pick_f (b := false) rfl rfl rfl) ?_
       refine wm rfl ?_
       refine wl_off (b := false) rfl rfl rfl rfl ?_
       refine wl_off (b := false) rfl rfl rfl rfl ?_
       refine wv (r := rB false) (o_pick_f (b := false) rfl rfl rfl) ?_
       refine wa rfl ?_
       refine wl_nil ?_
       exact wk_then (wk_mid (Sub.c (by first | rfl | (simp only [c31, c32, c33, c34, c35]; rfl) | simp [c31, c32, c33, c34, c35]) Sub.nil) (sS (sS (sS sN))))
     ·refine wl_off rfl rfl c34 rfl ?_
      refine wl_off rfl rfl c34 rfl ?_
      refine wl_off rfl rfl c34 rfl ?_
      refine wv (r := rB false) (o_pick_f (b := decide (r22.2 = 0)) rfl c34 rfl) ?_
      refine wm rfl ?_
      refine wl_off (b := false) rfl rfl rfl rfl ?_
      refine wl_off (b := false) rfl rfl rfl rfl ?_
      refine wv (r := rB false) (o_pick_f (b := false) rfl rfl rfl) ?_
      refine wm rfl ?_
      refine wl_off (b := false) rfl rfl rfl rfl ?_
      refine wl_off (b := false) rfl rfl rfl rfl ?_
      refine wl_off (b := false) rfl rfl rfl rfl ?_
      refine wv (r := rB false) (o_pick_f (b := false) rfl rfl rfl) ?_
      refine wm rfl ?_
      refine wl_off (b := false) rfl rfl rfl rfl ?_
      refine wl_off (b := false) rfl rfl rfl rfl ?_
      refine wl_off (b := false) rfl rfl rfl rfl ?_
      refine wv (r := rB false) (o_pick_f (b := false) rfl rfl rfl) ?_
      refine wm rfl ?_
      refine wl_off (b := false) rfl rfl rfl rfl ?_
      refine wl_off (b := false) rfl rfl rfl rfl ?_
      refine wv (r := rB false) (o_pick_f (b := false) rfl rfl rfl) ?_
      refine wa rfl ?_
      refine wl_nil ?_
      exact wk_then (wk_mid (Sub.c (by first | rfl | (simp only [c31, c32, c33, c34]; rfl) | simp [c31, c32, c33, c34]) Sub.nil) (sS (sS (sS sN))))
    ·refine wl_off rfl rfl c33 rfl ?_
     refine wl_off rfl rfl c33 rfl ?_
     refine wv (r := rB false) (o_pick_f (b := decide (r19.2 = 0)) rfl c33 rfl) ?_
     refine wm rfl ?_
     refine wl_off (b := false) rfl rfl rfl rfl ?_
     refine wl_off (b := false) rfl rfl rfl rfl ?_
     refine wl_off (b := false) rfl rfl rfl rfl ?_
     refine wv (r := rB false) (o_pick_f (b := false) rfl rfl rfl) ?_
     refine wm rfl ?_
     refine wl_off (b := false) rfl rfl rfl rfl ?_
     refine wl_off (b := false) rfl rfl rfl rfl ?_
     refine wv (r := rB false) (o_pick_f (b := false) rfl rfl rfl) ?_
     refine wm rfl ?_
     refine wl_off (b := false) rfl rfl rfl rfl ?_
     refine wl_off (b := false) rfl rfl rfl rfl ?_
     refine wl_off (b := false) rfl rfl rfl rfl ?_
     refine wv (r := rB false) (o_pick_f (b := false) rfl rfl rfl) ?_
     refine wm rfl ?_
     refine wl_off (b := false) rfl rfl rfl rfl ?_
     refine wl_off (b := false) rfl rfl rfl rfl ?_
     refine wl_off (b := false) rfl rfl rfl rfl ?_
     refine wv (r := rB false) (o_pick_f (b := false) rfl rfl rfl) ?_
     refine wm rfl ?_
     refine wl_off (b := false) rfl rfl rfl rfl ?_
     refine wl_off (b := false) rfl rfl rfl rfl ?_
     refine wv (r := rB false) (o_pick_f (b := false) rfl rfl rfl) ?_
     refine wa rfl ?_
     refine wl_nil ?_
     exact wk_then (wk_mid (Sub.c (by first | rfl | (simp only [c31, c32, c33]; rfl) | simp [c31, c32, c33]) Sub.nil) (sS (sS (sS sN))))
   ·refine wl_off rfl rfl c32 rfl ?_
    refine wl_off rfl rfl c32 rfl ?_
    refine wv (r := rB false) (o_pick_f (b := decide (r16.2 = 0)) rfl c32 rfl) ?_
    refine wm rfl ?_
    refine wl_off (b := false) rfl rfl rfl rfl ?_
    refine wl_off (b := false) rfl rfl rfl rfl ?_
    refine wv (r := rB false) (o_pick_f (b := false) rfl rfl rfl) ?_
    refine wm rfl ?_
    refine wl_off (b := false) rfl rfl rfl rfl ?_
    refine wl_off (b := false) rfl rfl rfl rfl ?_
    refine wl_off (b := false) rfl rfl rfl rfl ?_
    refine wv (r := rB false) (o_pick_f (b := false) rfl rfl rfl) ?_
    refine wm rfl ?_
    refine wl_off (b := false) rfl rfl rfl rfl ?_
    refine wl_off (b := false) rfl rfl rfl rfl ?_
    refine wv (r := rB false) (o_pick_f (b := false) rfl rfl rfl) ?_
    refine wm rfl ?_
    refine wl_off (b := false) rfl rfl rfl rfl ?_
    refine wl_off (b := false) rfl rfl rfl rfl ?_
    refine wl_off (b := false) rfl rfl rfl rfl ?_
    refine wv (r := rB false) (o_pick_f (b := false) rfl rfl rfl) ?_
    refine wm rfl ?_
    refine wl_off (b := false) rfl rfl rfl rfl ?_
    refine wl_off (b := false) rfl rfl rfl rfl ?_
    refine wl_off (b := false) rfl rfl rfl rfl ?_
    refine wv (r := rB false) (o_pick_f (b := false) rfl rfl rfl) ?_
    refine wm rfl ?_
    refine wl_off (b := false) rfl rfl rfl rfl ?_
    refine wl_off (b := false) rfl rfl rfl rfl ?_
    refine wv (r := rB false) (o_pick_f (b := false) rfl rfl rfl) ?_
    refine wa rfl ?_
    refine wl_nil ?_
    exact wk_then (wk_mid (Sub.c (by first | rfl | (simp only [c31, c32]; rfl) | simp [c31, c32]) Sub.nil) (sS (sS (sS sN))))
  ·refine wl_off rfl rfl c31 rfl ?_
   refine wl_off rfl rfl c31 rfl ?_
   refine wv (r := rB false) (o_pick_f (b := decide (r8.2 = 0)) rfl c31 rfl) ?_
   refine wm rfl ?_
   refine wl_off (b := false) rfl rfl rfl rfl ?_
   refine wl_off (b := false) rfl rfl rfl rfl ?_
   refine wv (r := rB false) (o_pick_f (b := false) rfl rfl rfl) ?_
   refine wm rfl ?_
   refine wl_off (b := false) rfl rfl rfl rfl ?_
   refine wl_off (b := false) rfl rfl rfl rfl ?_
   refine wv (r := rB false) (o_pick_f (b := false) rfl rfl rfl) ?_
   refine wm rfl ?_
   refine wl_off (b := false) rfl rfl rfl rfl ?_
   refine wl_off (b := false) rfl rfl rfl rfl ?_
   refine wl_off (b := false) rfl rfl rfl rfl ?_
   refine wv (r := rB false) (o_pick_f (b := false) rfl rfl rfl) ?_
   refine wm rfl ?_
   refine wl_off (b := false) rfl rfl rfl rfl ?_
   refine wl_off (b := false) rfl rfl rfl rfl ?_
   refine wv (r := rB false) (o_pick_f (b := false) rfl rfl rfl) ?_
   refine wm rfl ?_
   refine wl_off (b := false) rfl rfl rfl rfl ?_
   refine wl_off (b := false) rfl rfl rfl rfl ?_
   refine wl_off (b := false) rfl rfl rfl rfl ?_
   refine wv (r := rB false) (o_pick_f (b := false) rfl rfl rfl) ?_
   refine wm rfl ?_
   refine wl_off (b := false) rfl rfl rfl rfl ?_
   refine wl_off (b := false) rfl rfl rfl rfl ?_
   refine wl_off (b := false) rfl rfl rfl rfl ?_
   refine wv (r := rB false) (o_pick_f (b := false) rfl rfl rfl) ?_
   refine wm rfl ?_
   refine wl_off (b := false) rfl rfl rfl rfl ?_
   refine wl_off (b := false) rfl rfl rfl rfl ?_
   refine wv (r := rB false) (o_pick_f (b := false) rfl rfl rfl) ?_
   refine wa rfl ?_
   refine wl_nil ?_
   exact wk_then (wk_mid (Sub.c (by first | rfl | (simp only [c31]; rfl) | simp [c31]) Sub.nil) (sS (sS (sS sN))))
 refine wc_ret ?_
 obtain rfl := some_e h30
 exact wk_ret (r_1 Tryz.results7 (rv_t rfl)) sN ⟨rfl, rfl⟩

end Go.Proofs.YtkalifgebccpcaaGreatDoor.Q

/-
 What functions compute, with checks: plain definitions, printed by a small program of ours (gq.py). No program in sight.
-/
namespace Go.Proofs.YtkalifgebccpcaaGreatDoor
open Go
set_option linter.unusedVariables false
def rChecked (F : Nat) (v : (List TApiCell)) : Option ((List TApiCell) × Int) :=
 obn (rCheck F v) fun r1 => cnd (!decide (r1 = 0)) (some (([] : List TApiCell), r1)) (some (v, 0))

def rNull  : Option ((List TApiCell)) :=
 some ([(TApiCell.mk 1 0 ([] : Str) 0)] : List TApiCell)

def rBool (b : Bool) : Option ((List TApiCell)) :=
 cnd (b) (some ([(TApiCell.mk 2 1 ([] : Str) 0)] : List TApiCell)) (some ([(TApiCell.mk 2 0 ([] : Str) 0)] : List TApiCell))

def rStarts (s : Str) (at_ : Int) (word : Str) : Option (Bool) :=
 chk (inK .i64 (at_ + (word.length : Int))) <| chk (imp (decide ((at_ + (word.length : Int)) ≤ (s.length : Int))) (inC at_ (at_ + (word.length : Int)))) <| chk (imp (decide ((at_ + (word.length : Int)) ≤ (s.length : Int))) (inC (at_ + (word.length : Int)) (s.length : Int))) <| some ((decide ((at_ + (word.length : Int)) ≤ (s.length : Int))) && (decide ((List.take (Int.toNat (at_ + (word.length : Int)) - Int.toNat at_) (List.drop (Int.toNat at_) s)) = word)))

def rReadString_b1 (s : Str) (x246 : Str) (x247 : Int) : Option (Stp (Str × Int) (Out (Str × Int) (Str × Int))) :=
 chk (imp (decide (x247 < (s.length : Int))) (inR x247 (s.length : Int))) <| cnd (((decide (x247 < (s.length : Int))) && (!decide ((bat s x247) = 34)))) (chk (inR x247 (s.length : Int)) <| cnd (decide ((bat s x247) = 92)) (chk (inK .i64 (x247 + 1)) <| chk (imp (!(decide ((s.length : Int) ≤ (x247 + 1)))) (inR (x247 + 1) (s.length : Int))) <| cnd (((decide ((s.length : Int) ≤ (x247 + 1))) || ((!decide ((bat s (x247 + 1)) = 34)) && (!decide ((bat s (x247 + 1)) = 92))))) (some (.out (.ret (([] : Str), (-1))))) (chk (inK .i64 ((x247 + 1) + 1)) <| chk (inC (x247 + 1) ((x247 + 1) + 1)) <| chk (inC ((x247 + 1) + 1) (s.length : Int)) <| chk (inK .i64 ((x246.length : Int) + ((List.take (Int.toNat ((x247 + 1) + 1) - Int.toNat (x247 + 1)) (List.drop (Int.toNat (x247 + 1)) s)).length : Int))) <| some (.next (x246 ++ (List.take (Int.toNat ((x247 + 1) + 1) - Int.toNat (x247 + 1)) (List.drop (Int.toNat (x247 + 1)) s)), (x247 + 1) + 1)))) (chk (inK .i64 (x247 + 1)) <| chk (inC x247 (x247 + 1)) <| chk (inC (x247 + 1) (s.length : Int)) <| chk (inK .i64 ((x246.length : Int) + ((List.take (Int.toNat (x247 + 1) - Int.toNat x247) (List.drop (Int.toNat x247) s)).length : Int))) <| some (.next (x246 ++ (List.take (Int.toNat (x247 + 1) - Int.toNat x247) (List.drop (Int.toNat x247) s)), x247 + 1)))) (some (.out (.go (x246, x247))))

def rReadString_k1 (s : Str) (x284 : Str) (x285 : Int) : Option (Str × Int) :=
 cnd (decide ((s.length : Int) ≤ x285)) (some (([] : Str), (-1))) (chk (inK .i64 (x285 + 1)) <| some (x284, x285 + 1))

def rReadString (F : Nat) (s : Str) (at_ : Int) : Option (Str × Int) :=
 chk (imp (!(decide ((s.length : Int) ≤ at_))) (inR at_ (s.length : Int))) <| cnd (((decide ((s.length : Int) ≤ at_)) || (!decide ((bat s at_) = 34)))) (some (([] : Str), (-1))) (chk (inK .i64 (at_ + 1)) <| obn (lop (fun σ => rReadString_b1 s σ.1 σ.2) F (([] : Str), at_ + 1)) (oute fun ν => rReadString_k1 s ν.1 ν.2))

def rReadInt_b1 (s : Str) (at_ : Int) (x180 : Int) (x181 : Int) : Option (Stp (Int × Int) (Out ((List TApiCell) × Int) (Int × Int))) :=
 chk (imp (decide (x180 < (s.length : Int))) (inR x180 (s.length : Int))) <| cnd (((decide (x180 < (s.length : Int))) && ((decide (48 ≤ (bat s x180))) && (decide ((bat s x180) ≤ 57))))) (chk (inK .i64 (x180 - (at_ + 1))) <| cnd (decide ((x180 - (at_ + 1)) < 18)) (chk (inK .i64 (10 * x181)) <| chk (inR x180 (s.length : Int)) <| chk (inK .u8 ((bat s x180) - 48)) <| chk (inK .i64 ((bat s x180) - 48)) <| chk (inK .i64 ((10 * x181) + ((bat s x180) - 48))) <| chk (inK .i64 (x180 + 1)) <| some (.next (x180 + 1, (10 * x181) + ((bat s x180) - 48)))) (chk (inK .i64 (x180 + 1)) <| some (.next (x180 + 1, x181)))) (some (.out (.go (x180, x181))))

def rReadInt_k1 (s : Str) (at_ : Int) (x208 : Int) (x209 : Int) : Option ((List TApiCell) × Int) :=
 chk (imp (!(decide (x208 = (at_ + 1)))) (inR (at_ + 1) (s.length : Int))) <| chk (imp (!(decide (x208 = (at_ + 1)))) (imp (decide ((bat s (at_ + 1)) = 48)) (inK .i64 ((at_ + 1) + 1)))) <| cnd (((decide (x208 = (at_ + 1))) || ((decide ((bat s (at_ + 1)) = 48)) && ((decide (((at_ + 1) + 1) < x208)) || (decide (at_ < (at_ + 1))))))) (some (([] : List TApiCell), (-1))) (chk (inK .i64 (x208 - (at_ + 1))) <| cnd (decide (18 < (x208 - (at_ + 1)))) (cnd (decide (at_ < (at_ + 1))) (chk (inK .i64 (-2000000000000)) <| some (([(TApiCell.mk 3 (-2000000000000) ([] : Str) 0)] : List TApiCell), x208)) (some (([(TApiCell.mk 3 2000000000000 ([] : Str) 0)] : List TApiCell), x208))) (cnd (decide (at_ < (at_ + 1))) (chk (inK .i64 (-x209)) <| some (([(TApiCell.mk 3 (-x209) ([] : Str) 0)] : List TApiCell), x208)) (some (([(TApiCell.mk 3 x209 ([] : Str) 0)] : List TApiCell), x208))))

def rReadInt_b2 (s : Str) (at_ : Int) (x444 : Int) (x445 : Int) : Option (Stp (Int × Int) (Out ((List TApiCell) × Int) (Int × Int))) :=
 chk (imp (decide (x444 < (s.length : Int))) (inR x444 (s.length : Int))) <| cnd (((decide (x444 < (s.length : Int))) && ((decide (48 ≤ (bat s x444))) && (decide ((bat s x444) ≤ 57))))) (chk (inK .i64 (x444 - at_)) <| cnd (decide ((x444 - at_) < 18)) (chk (inK .i64 (10 * x445)) <| chk (inR x444 (s.length : Int)) <| chk (inK .u8 ((bat s x444) - 48)) <| chk (inK .i64 ((bat s x444) - 48)) <| chk (inK .i64 ((10 * x445) + ((bat s x444) - 48))) <| chk (inK .i64 (x444 + 1)) <| some (.next (x444 + 1, (10 * x445) + ((bat s x444) - 48)))) (chk (inK .i64 (x444 + 1)) <| some (.next (x444 + 1, x445)))) (some (.out (.go (x444, x445))))

def rReadInt_k2 (s : Str) (at_ : Int) (x472 : Int) (x473 : Int) : Option ((List TApiCell) × Int) :=
 chk (imp (!(decide (x472 = at_))) (imp (decide ((bat s at_) = 48)) (inK .i64 (at_ + 1)))) <| cnd (((decide (x472 = at_)) || ((decide ((bat s at_) = 48)) && ((decide ((at_ + 1) < x472)) || (decide (at_ < at_)))))) (some (([] : List TApiCell), (-1))) (chk (inK .i64 (x472 - at_)) <| cnd (decide (18 < (x472 - at_))) (cnd (decide (at_ < at_)) (chk (inK .i64 (-2000000000000)) <| some (([(TApiCell.mk 3 (-2000000000000) ([] : Str) 0)] : List TApiCell), x472)) (some (([(TApiCell.mk 3 2000000000000 ([] : Str) 0)] : List TApiCell), x472))) (cnd (decide (at_ < at_)) (chk (inK .i64 (-x473)) <| some (([(TApiCell.mk 3 (-x473) ([] : Str) 0)] : List TApiCell), x472)) (some (([(TApiCell.mk 3 x473 ([] : Str) 0)] : List TApiCell), x472))))

def rReadInt (F : Nat) (s : Str) (at_ : Int) : Option ((List TApiCell) × Int) :=
 chk (inR at_ (s.length : Int)) <| cnd (decide ((bat s at_) = 45)) (chk (inK .i64 (at_ + 1)) <| obn (lop (fun σ => rReadInt_b1 s at_ σ.1 σ.2) F (at_ + 1, 0)) (oute fun ν => rReadInt_k1 s at_ ν.1 ν.2)) (obn (lop (fun σ => rReadInt_b2 s at_ σ.1 σ.2) F (at_, 0)) (oute fun ν => rReadInt_k2 s at_ ν.1 ν.2))

def rReadm (F : Nat) (rec_rReadMany : Str → Int → Option ((List TApiCell) × Int)) (s : Str) (at_ : Int) : Option ((List TApiCell) × Int) :=
 cnd (decide ((s.length : Int) ≤ at_)) (some (([] : List TApiCell), (-1))) (obn (rStarts s at_ ([110, 117, 108, 108] : Str)) fun r4 => cnd (r4) (obn (rNull) fun r9 => chk (inK .i64 (at_ + 4)) <| some (r9, at_ + 4)) (obn (rStarts s at_ ([116, 114, 117, 101] : Str)) fun r15 => cnd (r15) (obn (rBool true) fun r20 => chk (inK .i64 (at_ + 4)) <| some (r20, at_ + 4)) (obn (rStarts s at_ ([102, 97, 108, 115, 101] : Str)) fun r26 => cnd (r26) (obn (rBool false) fun r31 => chk (inK .i64 (at_ + 5)) <| some (r31, at_ + 5)) (chk (inR at_ (s.length : Int)) <| cnd (decide ((bat s at_) = 34)) (obn (rReadString F s at_) fun r41 => some (([(TApiCell.mk 4 0 r41.1 0)] : List TApiCell), r41.2)) (cnd (((decide ((bat s at_) = 91)) || (decide ((bat s at_) = 123)))) (obn (rec_rReadMany s at_) fun r49 => some (r49.1, r49.2)) (obn (rReadInt F s at_) fun r53 => some (r53.1, r53.2)))))))

def rReadMany_b1 (F : Nat) (s : Str) (rec_rRead : Str → Int → Option ((List TApiCell) × Int)) (x443 : (List TApiCell)) (x445 : Int) (x446 : TApiCell) : Option (Stp ((List TApiCell) × Int × TApiCell) (Out ((List TApiCell) × Int) ((List TApiCell) × Int × TApiCell))) :=
 chk ((rStarts s x445 ([125] : Str)).isSome) <| chk (imp (!(!(ov (rStarts s x445 ([125] : Str))))) (imp (decide (0 < x446.fN)) (inK .i64 (x445 - 1)))) <| chk (imp (!(!(ov (rStarts s x445 ([125] : Str))))) (imp (decide (0 < x446.fN)) (inR (x445 - 1) (s.length : Int)))) <| cnd (((!(ov (rStarts s x445 ([125] : Str)))) || ((decide (0 < x446.fN)) && (decide ((bat s (x445 - 1)) = 44))))) (cnd (decide (x446.fKind = 6)) (obn (rReadString F s x445) fun r551 => chk (imp (!(decide (r551.2 < 0))) ((rStarts s r551.2 ([58] : Str)).isSome)) <| cnd (((decide (r551.2 < 0)) || (!(ov (rStarts s r551.2 ([58] : Str)))))) (some (.out (.ret (([] : List TApiCell), (-1))))) (chk (inA 40 (x443.length + ([(TApiCell.mk 4 0 r551.1 0)] : List TApiCell).length)) <| chk (inK .i64 (r551.2 + 1)) <| obn (rec_rRead s (r551.2 + 1)) fun r567 => cnd (decide (r567.2 < 0)) (some (.out (.ret (([] : List TApiCell), (-1))))) (chk (inA 40 ((x443 ++ ([(TApiCell.mk 4 0 r551.1 0)] : List TApiCell)).length + r567.1.length)) <| chk (inK .i64 (x446.fN + 1)) <| obn (rStarts s r567.2 ([44] : Str)) fun r579 => cnd (r579) (chk (inK .i64 (r567.2 + 1)) <| some (.next ((x443 ++ ([(TApiCell.mk 4 0 r551.1 0)] : List TApiCell)) ++ r567.1, r567.2 + 1, (TApiCell.mk x446.fKind x446.fInt x446.fStr (x446.fN + 1))))) (obn (rStarts s r567.2 ([125] : Str)) fun r588 => cnd (!r588) (some (.out (.ret (([] : List TApiCell), (-1))))) (some (.next ((x443 ++ ([(TApiCell.mk 4 0 r551.1 0)] : List TApiCell)) ++ r567.1, r567.2, (TApiCell.mk x446.fKind x446.fInt x446.fStr (x446.fN + 1))))))))) (obn (rec_rRead s x445) fun r597 => cnd (decide (r597.2 < 0)) (some (.out (.ret (([] : List TApiCell), (-1))))) (chk (inA 40 (x443.length + r597.1.length)) <| chk (inK .i64 (x446.fN + 1)) <| obn (rStarts s r597.2 ([44] : Str)) fun r609 => cnd (r609) (chk (inK .i64 (r597.2 + 1)) <| some (.next (x443 ++ r597.1, r597.2 + 1, (TApiCell.mk x446.fKind x446.fInt x446.fStr (x446.fN + 1))))) (obn (rStarts s r597.2 ([125] : Str)) fun r618 => cnd (!r618) (some (.out (.ret (([] : List TApiCell), (-1))))) (some (.next (x443 ++ r597.1, r597.2, (TApiCell.mk x446.fKind x446.fInt x446.fStr (x446.fN + 1))))))))) (some (.out (.go (x443, x445, x446))))

def rReadMany_k1 (x526 : (List TApiCell)) (x528 : Int) (x529 : TApiCell) : Option ((List TApiCell) × Int) :=
 chk (inA 40 (([x529] : List TApiCell).length + x526.length)) <| chk (inK .i64 (x528 + 1)) <| some (([x529] : List TApiCell) ++ x526, x528 + 1)

def rReadMany_b2 (F : Nat) (s : Str) (rec_rRead : Str → Int → Option ((List TApiCell) × Int)) (x1043 : (List TApiCell)) (x1045 : Int) (x1046 : TApiCell) : Option (Stp ((List TApiCell) × Int × TApiCell) (Out ((List TApiCell) × Int) ((List TApiCell) × Int × TApiCell))) :=
 chk ((rStarts s x1045 ([93] : Str)).isSome) <| chk (imp (!(!(ov (rStarts s x1045 ([93] : Str))))) (imp (decide (0 < x1046.fN)) (inK .i64 (x1045 - 1)))) <| chk (imp (!(!(ov (rStarts s x1045 ([93] : Str))))) (imp (decide (0 < x1046.fN)) (inR (x1045 - 1) (s.length : Int)))) <| cnd (((!(ov (rStarts s x1045 ([93] : Str)))) || ((decide (0 < x1046.fN)) && (decide ((bat s (x1045 - 1)) = 44))))) (cnd (decide (x1046.fKind = 6)) (obn (rReadString F s x1045) fun r1151 => chk (imp (!(decide (r1151.2 < 0))) ((rStarts s r1151.2 ([58] : Str)).isSome)) <| cnd (((decide (r1151.2 < 0)) || (!(ov (rStarts s r1151.2 ([58] : Str)))))) (some (.out (.ret (([] : List TApiCell), (-1))))) (chk (inA 40 (x1043.length + ([(TApiCell.mk 4 0 r1151.1 0)] : List TApiCell).length)) <| chk (inK .i64 (r1151.2 + 1)) <| obn (rec_rRead s (r1151.2 + 1)) fun r1167 => cnd (decide (r1167.2 < 0)) (some (.out (.ret (([] : List TApiCell), (-1))))) (chk (inA 40 ((x1043 ++ ([(TApiCell.mk 4 0 r1151.1 0)] : List TApiCell)).length + r1167.1.length)) <| chk (inK .i64 (x1046.fN + 1)) <| obn (rStarts s r1167.2 ([44] : Str)) fun r1179 => cnd (r1179) (chk (inK .i64 (r1167.2 + 1)) <| some (.next ((x1043 ++ ([(TApiCell.mk 4 0 r1151.1 0)] : List TApiCell)) ++ r1167.1, r1167.2 + 1, (TApiCell.mk x1046.fKind x1046.fInt x1046.fStr (x1046.fN + 1))))) (obn (rStarts s r1167.2 ([93] : Str)) fun r1188 => cnd (!r1188) (some (.out (.ret (([] : List TApiCell), (-1))))) (some (.next ((x1043 ++ ([(TApiCell.mk 4 0 r1151.1 0)] : List TApiCell)) ++ r1167.1, r1167.2, (TApiCell.mk x1046.fKind x1046.fInt x1046.fStr (x1046.fN + 1))))))))) (obn (rec_rRead s x1045) fun r1197 => cnd (decide (r1197.2 < 0)) (some (.out (.ret (([] : List TApiCell), (-1))))) (chk (inA 40 (x1043.length + r1197.1.length)) <| chk (inK .i64 (x1046.fN + 1)) <| obn (rStarts s r1197.2 ([44] : Str)) fun r1209 => cnd (r1209) (chk (inK .i64 (r1197.2 + 1)) <| some (.next (x1043 ++ r1197.1, r1197.2 + 1, (TApiCell.mk x1046.fKind x1046.fInt x1046.fStr (x1046.fN + 1))))) (obn (rStarts s r1197.2 ([93] : Str)) fun r1218 => cnd (!r1218) (some (.out (.ret (([] : List TApiCell), (-1))))) (some (.next (x1043 ++ r1197.1, r1197.2, (TApiCell.mk x1046.fKind x1046.fInt x1046.fStr (x1046.fN + 1))))))))) (some (.out (.go (x1043, x1045, x1046))))

def rReadMany_k2 (x1126 : (List TApiCell)) (x1128 : Int) (x1129 : TApiCell) : Option ((List TApiCell) × Int) :=
 chk (inA 40 (([x1129] : List TApiCell).length + x1126.length)) <| chk (inK .i64 (x1128 + 1)) <| some (([x1129] : List TApiCell) ++ x1126, x1128 + 1)

def rReadManym (F : Nat) (rec_rRead : Str → Int → Option ((List TApiCell) × Int)) (s : Str) (at_ : Int) : Option ((List TApiCell) × Int) :=
 chk (inR at_ (s.length : Int)) <| cnd (decide ((bat s at_) = 123)) (chk (inK .i64 (at_ + 1)) <| obn (lop (fun σ => rReadMany_b1 F s rec_rRead σ.1 σ.2.1 σ.2.2) F (([] : List TApiCell), at_ + 1, (TApiCell.mk 6 0 ([] : Str) 0))) (oute fun ν => rReadMany_k1 ν.1 ν.2.1 ν.2.2)) (chk (inK .i64 (at_ + 1)) <| obn (lop (fun σ => rReadMany_b2 F s rec_rRead σ.1 σ.2.1 σ.2.2) F (([] : List TApiCell), at_ + 1, (TApiCell.mk 5 0 ([] : Str) 0))) (oute fun ν => rReadMany_k2 ν.1 ν.2.1 ν.2.2))

mutual
def rRead : Nat → Str → Int → Option ((List TApiCell) × Int)
 | 0, _, _ => none
 | nn + 1, s, at_ => rReadm nn (rReadMany nn) s at_

def rReadMany : Nat → Str → Int → Option ((List TApiCell) × Int)
 | 0, _, _ => none
 | nn + 1, s, at_ => rReadManym nn (rRead nn) s at_

end
def rDecode (F : Nat) (s : Str) : Option ((List TApiCell) × Int) :=
 cnd (decide (4000 < (s.length : Int))) (some (([] : List TApiCell), 3)) (obn (rRead F s 0) fun r4 => cnd (!decide (r4.2 = (s.length : Int))) (some (([] : List TApiCell), 1)) (obn (rChecked F r4.1) fun r10 => some (r10.1, r10.2)))

def lDecodes (F : Nat) (s : Str) : Option (Bool) :=
 cnd (decide (4100 < (s.length : Int))) (obn (lAwake F) fun r3 => some r3) (obn (vDecode F s) fun r7 => obn (rDecode F s) fun r10 => chk ((rSame F r7.1 r10.1).isSome) <| chk (imp ((ov (rSame F r7.1 r10.1))) (imp (decide (r7.2 = r10.2)) ((lAwake F).isSome))) <| some ((ov (rSame F r7.1 r10.1)) && ((decide (r7.2 = r10.2)) && (ov (lAwake F)))))

end Go.Proofs.YtkalifgebccpcaaGreatDoor
