/-
  The Yo FilterSelects holds of the given program for every input.
-/
import Derived.Test.YtghdglcmblpbeaaGreatDoorFS5
namespace Go.Proofs.YtghdglcmblpbeaaGreatDoor.lawFilterSelects
open Go Go.Proofs.YtghdglcmblpbeaaGreatDoor.Q Go.ChangeShapes Go.WideShapes Go.ChangeAt Go.RowKit
open Go.ChangeMaps (open_string)
set_option linter.unusedVariables false
set_option linter.unusedSimpArgs false
set_option maxRecDepth 100000
theorem opn9 : Jn Tryz.prog 9 eS R2 := Jn.str Tryz.underlying9 (fun _ => rfl)
theorem opn22 : Jn Tryz.prog 22 (fun ys : (List Av) => [AC 1 (ys.map eS)]) (fun ys : (List Av) => ys.all R2 && decide (ys.length ≤ 9223372036854775807)) := Jn.slice Tryz.underlying22 (by kernel_rfl) (by decide) opn9 He (fun _ => rfl)
theorem opn23 : Jn Tryz.prog 23 Bp (BB .i64) := Jn.int Tryz.underlying23 (fun _ => rfl)
theorem opn52 : Jn Tryz.prog 52 Bp (BB .i64) := Jn.int Tryz.underlying52 (fun _ => rfl)
theorem opn3 : Jn Tryz.prog 3 Bp (BB .i64) := Jn.int Tryz.underlying3 (fun _ => rfl)
-- struct Aa
theorem opn54 : Jn Tryz.prog 54 Ab S5 := fun h => by
  obtain ⟨xs, k, _, _, hlen, hxl, hf⟩ := DataW.trod_struct Tryz.underlying54 h
  have hxl : xs.length = 4 := hxl
  have ct : Tryz.prog.cellsOf 54 = 4 := by kernel_rfl
  rw [ct] at hlen
  have g0 : DataW.trod _ _ _ _ _ _ _ 52 ((List.drop 0 _).take (Tryz.prog.cellsOf 52)) = _ := hf 0 _ rfl
  have c0 : Tryz.prog.cellsOf 52 = 1 := by kernel_rfl
  rw [c0, List.getElem?_eq_getElem (by omega)] at g0
  obtain ⟨y0, o0, r0⟩ := opn52 g0
  have g1 : DataW.trod _ _ _ _ _ _ _ 3 ((List.drop 1 _).take (Tryz.prog.cellsOf 3)) = _ := hf 1 _ rfl
  have c1 : Tryz.prog.cellsOf 3 = 1 := by kernel_rfl
  rw [c1, List.getElem?_eq_getElem (by omega)] at g1
  obtain ⟨y1, o1, r1⟩ := opn3 g1
  have g2 : DataW.trod _ _ _ _ _ _ _ 9 ((List.drop 2 _).take (Tryz.prog.cellsOf 9)) = _ := hf 2 _ rfl
  have c2 : Tryz.prog.cellsOf 9 = 1 := by kernel_rfl
  rw [c2, List.getElem?_eq_getElem (by omega)] at g2
  obtain ⟨y2, o2, r2⟩ := opn9 g2
  have g3 : DataW.trod _ _ _ _ _ _ _ 3 ((List.drop 3 _).take (Tryz.prog.cellsOf 3)) = _ := hf 3 _ rfl
  have c3 : Tryz.prog.cellsOf 3 = 1 := by kernel_rfl
  rw [c3, List.getElem?_eq_getElem (by omega)] at g3
  obtain ⟨y3, o3, r3⟩ := opn3 g3
  refine ⟨⟨y0, y1, y2, y3⟩, by simp only [S5, o0, o1, o2, o3, Bool.and_self], ?_⟩
  exact (C9 r0 rfl (C9 r1 rfl (C9 r2 rfl (C9 r3 rfl (Oh hlen)))))
theorem opn28 : Jn Tryz.prog 28 (fun ys : (List Aa) => [AC 4 (ys.map Ab)]) (fun ys : (List Aa) => ys.all S5 && decide (ys.length ≤ 9223372036854775807)) := Jn.slice Tryz.underlying28 (by kernel_rfl) (by decide) opn54 Bi (fun _ => rfl)
theorem opn24 : Jn Tryz.prog 24 (fun ys : (List (List Aa)) => [AC 1 (ys.map Af)]) (fun ys : (List (List Aa)) => ys.all (fun ys : (List Aa) => ys.all S5 && decide (ys.length ≤ 9223372036854775807)) && decide (ys.length ≤ 9223372036854775807)) := Jn.slice Tryz.underlying24 (by kernel_rfl) (by decide) opn28 B2 (fun _ => rfl)
-- struct Ah
theorem opn26 : Jn Tryz.prog 26 Ad V5 := fun h => by
  obtain ⟨xs, k, _, _, hlen, hxl, hf⟩ := DataW.trod_struct Tryz.underlying26 h
  have hxl : xs.length = 6 := hxl
  have ct : Tryz.prog.cellsOf 26 = 6 := by kernel_rfl
  rw [ct] at hlen
  have g0 : DataW.trod _ _ _ _ _ _ _ 22 ((List.drop 0 _).take (Tryz.prog.cellsOf 22)) = _ := hf 0 _ rfl
  have c0 : Tryz.prog.cellsOf 22 = 1 := by kernel_rfl
  rw [c0, List.getElem?_eq_getElem (by omega)] at g0
  obtain ⟨y0, o0, r0⟩ := opn22 g0
  have g1 : DataW.trod _ _ _ _ _ _ _ 23 ((List.drop 1 _).take (Tryz.prog.cellsOf 23)) = _ := hf 1 _ rfl
  have c1 : Tryz.prog.cellsOf 23 = 1 := by kernel_rfl
  rw [c1, List.getElem?_eq_getElem (by omega)] at g1
  obtain ⟨y1, o1, r1⟩ := opn23 g1
  have g2 : DataW.trod _ _ _ _ _ _ _ 24 ((List.drop 2 _).take (Tryz.prog.cellsOf 24)) = _ := hf 2 _ rfl
  have c2 : Tryz.prog.cellsOf 24 = 1 := by kernel_rfl
  rw [c2, List.getElem?_eq_getElem (by omega)] at g2
  obtain ⟨y2, o2, r2⟩ := opn24 g2
  have g3 : DataW.trod _ _ _ _ _ _ _ 9 ((List.drop 3 _).take (Tryz.prog.cellsOf 9)) = _ := hf 3 _ rfl
  have c3 : Tryz.prog.cellsOf 9 = 1 := by kernel_rfl
  rw [c3, List.getElem?_eq_getElem (by omega)] at g3
  obtain ⟨y3, o3, r3⟩ := opn9 g3
  have g4 : DataW.trod _ _ _ _ _ _ _ 3 ((List.drop 4 _).take (Tryz.prog.cellsOf 3)) = _ := hf 4 _ rfl
  have c4 : Tryz.prog.cellsOf 3 = 1 := by kernel_rfl
  rw [c4, List.getElem?_eq_getElem (by omega)] at g4
  obtain ⟨y4, o4, r4⟩ := opn3 g4
  have g5 : DataW.trod _ _ _ _ _ _ _ 3 ((List.drop 5 _).take (Tryz.prog.cellsOf 3)) = _ := hf 5 _ rfl
  have c5 : Tryz.prog.cellsOf 3 = 1 := by kernel_rfl
  rw [c5, List.getElem?_eq_getElem (by omega)] at g5
  obtain ⟨y5, o5, r5⟩ := opn3 g5
  refine ⟨⟨y0, y1, y2, y3, y4, y5⟩, by simp only [V5, o0, o1, o2, o3, o4, o5, Bool.and_self], ?_⟩
  exact (C9 r0 rfl (C9 r1 rfl (C9 r2 rfl (C9 r3 rfl (C9 r4 rfl (C9 r5 rfl (Oh hlen)))))))
theorem opn27 : Jn Tryz.prog 27 (fun ys : (List Ah) => [AC 6 (ys.map Ad)]) (fun ys : (List Ah) => ys.all V5 && decide (ys.length ≤ 9223372036854775807)) := Jn.slice Tryz.underlying27 (by kernel_rfl) (by decide) opn26 LH (fun _ => rfl)
-- struct Cf
theorem opn48 : Jn Tryz.prog 48 Bw V4 := fun h => by
  obtain ⟨xs, k, _, _, hlen, hxl, hf⟩ := DataW.trod_struct Tryz.underlying48 h
  have hxl : xs.length = 7 := hxl
  have ct : Tryz.prog.cellsOf 48 = 7 := by kernel_rfl
  rw [ct] at hlen
  have g0 : DataW.trod _ _ _ _ _ _ _ 9 ((List.drop 0 _).take (Tryz.prog.cellsOf 9)) = _ := hf 0 _ rfl
  have c0 : Tryz.prog.cellsOf 9 = 1 := by kernel_rfl
  rw [c0, List.getElem?_eq_getElem (by omega)] at g0
  obtain ⟨y0, o0, r0⟩ := opn9 g0
  have g1 : DataW.trod _ _ _ _ _ _ _ 9 ((List.drop 1 _).take (Tryz.prog.cellsOf 9)) = _ := hf 1 _ rfl
  have c1 : Tryz.prog.cellsOf 9 = 1 := by kernel_rfl
  rw [c1, List.getElem?_eq_getElem (by omega)] at g1
  obtain ⟨y1, o1, r1⟩ := opn9 g1
  have g2 : DataW.trod _ _ _ _ _ _ _ 9 ((List.drop 2 _).take (Tryz.prog.cellsOf 9)) = _ := hf 2 _ rfl
  have c2 : Tryz.prog.cellsOf 9 = 1 := by kernel_rfl
  rw [c2, List.getElem?_eq_getElem (by omega)] at g2
  obtain ⟨y2, o2, r2⟩ := opn9 g2
  have g3 : DataW.trod _ _ _ _ _ _ _ 9 ((List.drop 3 _).take (Tryz.prog.cellsOf 9)) = _ := hf 3 _ rfl
  have c3 : Tryz.prog.cellsOf 9 = 1 := by kernel_rfl
  rw [c3, List.getElem?_eq_getElem (by omega)] at g3
  obtain ⟨y3, o3, r3⟩ := opn9 g3
  have g4 : DataW.trod _ _ _ _ _ _ _ 3 ((List.drop 4 _).take (Tryz.prog.cellsOf 3)) = _ := hf 4 _ rfl
  have c4 : Tryz.prog.cellsOf 3 = 1 := by kernel_rfl
  rw [c4, List.getElem?_eq_getElem (by omega)] at g4
  obtain ⟨y4, o4, r4⟩ := opn3 g4
  have g5 : DataW.trod _ _ _ _ _ _ _ 9 ((List.drop 5 _).take (Tryz.prog.cellsOf 9)) = _ := hf 5 _ rfl
  have c5 : Tryz.prog.cellsOf 9 = 1 := by kernel_rfl
  rw [c5, List.getElem?_eq_getElem (by omega)] at g5
  obtain ⟨y5, o5, r5⟩ := opn9 g5
  have g6 : DataW.trod _ _ _ _ _ _ _ 28 ((List.drop 6 _).take (Tryz.prog.cellsOf 28)) = _ := hf 6 _ rfl
  have c6 : Tryz.prog.cellsOf 28 = 1 := by kernel_rfl
  rw [c6, List.getElem?_eq_getElem (by omega)] at g6
  obtain ⟨y6, o6, r6⟩ := opn28 g6
  refine ⟨⟨y0, y1, y2, y3, y4, y5, y6⟩, by simp only [V4, o0, o1, o2, o3, o4, o5, o6, Bool.and_self], ?_⟩
  exact (C9 r0 rfl (C9 r1 rfl (C9 r2 rfl (C9 r3 rfl (C9 r4 rfl (C9 r5 rfl (C9 r6 rfl (Oh hlen))))))))
theorem opn46 : Jn Tryz.prog 46 (fun ys : (List Cf) => [AC 7 (ys.map Bw)]) (fun ys : (List Cf) => ys.all V4 && decide (ys.length ≤ 9223372036854775807)) := Jn.slice Tryz.underlying46 (by kernel_rfl) (by decide) opn48 MY (fun _ => rfl)
theorem contract (H : Type) (enc : TypeId × Value → H) (W : World) (base : Nat) (args : Array Value) (ds gs : List (DataW H)) (before : List MemPlace)
    (hval : ∀ (j : Nat) t v, Tryz.f8.params[j]? = some t → args[j]? = some v → Value.okWide Tryz.prog W .any base t v)
    (hW : DataW.Whole enc Tryz.prog Tryz.f8.params.toList Rows.filterSelectsSpec.vars false W args.toList ds gs before)
    (hz : (DataW.weightsEach Tryz.prog (Tryz.f8.params.toList ++ []) (ds ++ gs)).all (· ≤ reachBytes) = true) (hL : laidMet Tryz.prog MI W) :
    Calls Tryz.prog 8 args W fun e W' => ∃ v, e = .returned v ∧ Rows.filterSelectsSpec.post enc Tryz.prog Tryz.f8 false true false false W args v W' := by
  have hE := Xf hL
  have hW' := hW
  obtain ⟨p, q, hA0, hV, hbf, hfz, hnd⟩ := hW
  have hA : DataW.TrodAll enc Tryz.prog W 0 (fun _ => true) true Tryz.f8.params.toList args.toList ds p := hA0
  rw [Tryz.params8] at hA hval hz
  obtain ⟨rfl, rfl⟩ := trodVars_none hV
  obtain ⟨v0, vs0, d0, ds0, p0, q0, hargs, hd0, hq0, h0, r0⟩ := trodAll_cons hA
  obtain ⟨v1, vs1, d1, ds1, p1, q1, hv1, hd1, hq1, h1, r1⟩ := trodAll_cons r0
  obtain ⟨hvn, hdn, hqn⟩ := trodAll_nil r1
  obtain rfl : args = #[v0, v1] := by cases args; simp_all
  obtain rfl : ds = [d0, d1] := by simp_all
  obtain ⟨a0, l0, c0, e0⟩ := okWide_slice Tryz.underlying27 (hval 0 27 v0 rfl rfl)
  obtain ⟨y0, oy0, hr0⟩ := Jn.val (opn27) (r := fun y => AC 6 (List.map Ad y)) (fun _ => rfl) (by rw [e0]; rfl) h0
  obtain ⟨a1, l1, c1, e1⟩ := okWide_slice Tryz.underlying46 (hval 1 46 v1 rfl rfl)
  obtain ⟨y1, oy1, hr1⟩ := Jn.val (opn46) (r := fun y => AC 7 (List.map Bw y)) (fun _ => rfl) (by rw [e1]; rfl) h1
  obtain ⟨F, hF⟩ := Yo y0 y1 oy0 oy1
  refine (QE F y0 y1 true hF W (ZW W) [v0, v1] ⟨hr0, hr1, trivial⟩ (TD hE)).mono fun e W' ⟨R, v, Ho, Z', he, ⟨hR, _⟩, hp, hs⟩ => ?_
  subst hR
  obtain rfl : v = .bool true := hp
  exact ⟨_, he, S3 VC (by kernel_rfl) rfl rfl Re hW' rfl rfl rfl (TE hs)⟩
theorem witness_row (os : Os) {H : Type} (enc : TypeId × Value → H) :
    (OpenSpec.ofChange Rows.filterSelectsSpec).preRow enc Tryz.prog Tryz.f8 Rows.filterSelectsRow.domain false Rows.filterSelectsRow.laid ((Jh os).forCall (fun _ _ => 0) ⟨#[], #[.slice none 0 0, .slice none 0 0], []⟩).memory #[.slice none 0 0, .slice none 0 0] := by
  have hw : (DataW.whole enc Tryz.prog ((Jh os).forCall (fun _ _ => 0) ⟨#[], #[.slice none 0 0, .slice none 0 0], []⟩).memory Tryz.f8.params.toList Rows.filterSelectsSpec.vars false #[.slice none 0 0, .slice none 0 0].toList 8).map (fun x => (x.1, x.2.1)) =
      some ([.nil, .nil], []) := by kernel_rfl
  obtain ⟨⟨x1, x2, x3⟩, hx, hx1⟩ := Option.map_eq_some_iff.1 hw
  simp only [Prod.mk.injEq] at hx1
  obtain ⟨rfl, rfl⟩ := hx1
  exact OpenSpec.preRow_of_cond 8 hx (by kernel_rfl) (fun k hk => by cases hk) (by kernel_rfl) (Ug os _)
theorem lifted (os : Os) (started : os.Started) (H : Type) (enc : TypeId × Value → H) (F : Stop.Interp) :
    ReturnsInHanded {} Tryz.checked os 8 .any ((OpenSpec.ofChange Rows.filterSelectsSpec).preRow enc Tryz.prog Tryz.f8 Rows.filterSelectsRow.domain false Rows.filterSelectsRow.laid) (((OpenSpec.ofChange Rows.filterSelectsSpec).at F).post enc Tryz.prog Tryz.f8 false true false false) := by
  refine returnsInHanded_of_row (C := Tryz.checked) (s := (OpenSpec.ofChange Rows.filterSelectsSpec)) own started (by kernel_rfl) Tryz.func8
    (witness_row_atRef (enc := enc) (C := Tryz.checked) false (Jh os) #[.slice none 0 0, .slice none 0 0] rfl (by kernel_rfl) (by kernel_rfl) (by kernel_rfl) (witness_row os enc)) ?_
  intro W base args ds gs before hval hW _ _ hz hL _ _
  exact contract H enc W base args ds gs before hval hW hz hL
theorem said : Rows.FilterSelectsSaid :=
  OpenClaim.holds_of_cond 8 Tryz.f8 rfl rfl rfl rfl rfl rfl rfl ⟨rfl, rfl, rfl, rfl, rfl⟩ rfl rfl rfl rfl rfl (by kernel_rfl) Tryz.func8 (by kernel_rfl)
    (of_decide_eq_true (by kernel_rfl)) (by unfold Func.isWrapper; first | (rw [if_pos (by decide +kernel)]; kernel_rfl) | (rw [if_neg (by decide +kernel)]; exact ⟨rfl, rfl⟩))
    (fun os started H enc _ F => by rw [OpenClaim.pre_eq_preRow]; exact lifted os started H enc F)
theorem plain (f : FuncId) (fn : Func) (hf : Tryz.pinned.checked.prog.funcNamed "faas/faaslaw25.FilterSelects" = some f) (hfn : Tryz.pinned.checked.prog.funcs[f]? = some fn) :
    true = Tryz.pinned.checked.prog.looks [] ∧ ∀ (j : Nat) t, fn.params[j]? = some t → Tryz.pinned.checked.prog.wantsStandIn t = false := by
  obtain rfl : f = 8 := Option.some.inj ((show Tryz.prog.funcNamed "faas/faaslaw25.FilterSelects" = some 8 by kernel_rfl).symm.trans hf) |>.symm
  obtain rfl : fn = Tryz.f8 := (Option.some.inj (Tryz.func8.symm.trans hfn)).symm
  refine ⟨by kernel_rfl, fun j t ht => ?_⟩
  rw [Tryz.params8] at ht
  have hm := Array.mem_of_getElem? ht
  have hall : ∀ t ∈ (#[27, 46] : Array TypeId), Tryz.prog.wantsStandIn t = false := by
    intro t ht
    have := List.all_eq_true.1 (show ([27, 46] : List TypeId).all (fun t => !Tryz.prog.wantsStandIn t) = true by kernel_rfl) t (by simpa using ht)
    simpa using this
  exact hall t hm
theorem card : Rows.FilterSelectsCardSaid :=
  Claim7.holds_tied_plain_at .later [] _ _ _ _ said (fun _ h => by cases h) (by kernel_rfl) (fun _ h => by cases h) filterSelects_row_tie rfl ⟨rfl, rfl⟩ (by kernel_rfl) rfl plain (by kernel_rfl)
end Go.Proofs.YtghdglcmblpbeaaGreatDoor.lawFilterSelects
namespace Go.Proofs.YtghdglcmblpbeaaGreatDoor
theorem filterSelects_card : Rows.FilterSelectsCardSaid := lawFilterSelects.card
end Go.Proofs.YtghdglcmblpbeaaGreatDoor
#print axioms Go.Proofs.YtghdglcmblpbeaaGreatDoor.filterSelects_card
