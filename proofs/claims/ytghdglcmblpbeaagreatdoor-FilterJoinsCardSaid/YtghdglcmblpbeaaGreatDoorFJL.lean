/-
  The Vi FilterJoins holds of the given program for every input.
-/
import Derived.Test.YtghdglcmblpbeaaGreatDoorFJ4
namespace Go.Proofs.YtghdglcmblpbeaaGreatDoor.lawFilterJoins
open Go Go.Proofs.YtghdglcmblpbeaaGreatDoor.Q Go.ChangeShapes Go.WideShapes Go.ChangeAt Go.RowKit
open Go.ChangeMaps (open_string)
set_option linter.unusedVariables false
set_option linter.unusedSimpArgs false
set_option maxRecDepth 100000
theorem opn9 : HZ Tryz.prog 9 eS So := HZ.str Tryz.underlying9 (fun _ => rfl)
theorem opn22 : HZ Tryz.prog 22 (fun ys : (List Ar) => [AE 1 (ys.map eS)]) (fun ys : (List Ar) => ys.all So && decide (ys.length ≤ 9223372036854775807)) := HZ.slice Tryz.underlying22 (by kernel_rfl) (by decide) opn9 H7 (fun _ => rfl)
theorem opn23 : HZ Tryz.prog 23 BO (BM .i64) := HZ.int Tryz.underlying23 (fun _ => rfl)
theorem opn52 : HZ Tryz.prog 52 BO (BM .i64) := HZ.int Tryz.underlying52 (fun _ => rfl)
theorem opn3 : HZ Tryz.prog 3 BO (BM .i64) := HZ.int Tryz.underlying3 (fun _ => rfl)
-- struct Aa
theorem opn54 : HZ Tryz.prog 54 Ab P3 := fun h => by
  obtain ⟨xs, k, _, _, hlen, hxl, hf⟩ := DataW.trod_struct Tryz.underlying54 h
  have hxl : xs.length = 4 := hxl
  have ct : Tryz.prog.cellsOf 54 = 4 := by kernel_rfl
  rw [ct] at hlen
  have g0 : DataW.trod _ _ _ _ _ _ _ 52 ((List.drop 0 _).take (Tryz.prog.cellsOf 52)) = _ := hf 0 _ rfl
  have c0 : Tryz.prog.cellsOf 52 = 1 := by kernel_rfl
  rw [c0, List.getElem?_eq_getElem (by omega)] at g0
  obtain ⟨y0, o0, r0⟩ := opn52 g0
  have g1 : DataW.trod _ _ _ _ _ _ _ 3 ((List.drop 1 _).take (Tryz.prog.cellsOf 3)) = _ := hf 1 _ rfl
  have c1 : Tryz.prog.cellsOf 3 = 1 := by kernel_rfl
  rw [c1, List.getElem?_eq_getElem (by omega)] at g1
  obtain ⟨y1, o1, r1⟩ := opn3 g1
  have g2 : DataW.trod _ _ _ _ _ _ _ 9 ((List.drop 2 _).take (Tryz.prog.cellsOf 9)) = _ := hf 2 _ rfl
  have c2 : Tryz.prog.cellsOf 9 = 1 := by kernel_rfl
  rw [c2, List.getElem?_eq_getElem (by omega)] at g2
  obtain ⟨y2, o2, r2⟩ := opn9 g2
  have g3 : DataW.trod _ _ _ _ _ _ _ 3 ((List.drop 3 _).take (Tryz.prog.cellsOf 3)) = _ := hf 3 _ rfl
  have c3 : Tryz.prog.cellsOf 3 = 1 := by kernel_rfl
  rw [c3, List.getElem?_eq_getElem (by omega)] at g3
  obtain ⟨y3, o3, r3⟩ := opn3 g3
  refine ⟨⟨y0, y1, y2, y3⟩, by simp only [P3, o0, o1, o2, o3, Bool.and_self], ?_⟩
  exact (Dn r0 rfl (Dn r1 rfl (Dn r2 rfl (Dn r3 rfl (OB hlen)))))
theorem opn28 : HZ Tryz.prog 28 (fun ys : (List Aa) => [AE 4 (ys.map Ab)]) (fun ys : (List Aa) => ys.all P3 && decide (ys.length ≤ 9223372036854775807)) := HZ.slice Tryz.underlying28 (by kernel_rfl) (by decide) opn54 AX (fun _ => rfl)
theorem opn24 : HZ Tryz.prog 24 (fun ys : (List (List Aa)) => [AE 1 (ys.map Ae)]) (fun ys : (List (List Aa)) => ys.all (fun ys : (List Aa) => ys.all P3 && decide (ys.length ≤ 9223372036854775807)) && decide (ys.length ≤ 9223372036854775807)) := HZ.slice Tryz.underlying24 (by kernel_rfl) (by decide) opn28 B6 (fun _ => rfl)
-- struct Af
theorem opn26 : HZ Tryz.prog 26 Ad QM := fun h => by
  obtain ⟨xs, k, _, _, hlen, hxl, hf⟩ := DataW.trod_struct Tryz.underlying26 h
  have hxl : xs.length = 6 := hxl
  have ct : Tryz.prog.cellsOf 26 = 6 := by kernel_rfl
  rw [ct] at hlen
  have g0 : DataW.trod _ _ _ _ _ _ _ 22 ((List.drop 0 _).take (Tryz.prog.cellsOf 22)) = _ := hf 0 _ rfl
  have c0 : Tryz.prog.cellsOf 22 = 1 := by kernel_rfl
  rw [c0, List.getElem?_eq_getElem (by omega)] at g0
  obtain ⟨y0, o0, r0⟩ := opn22 g0
  have g1 : DataW.trod _ _ _ _ _ _ _ 23 ((List.drop 1 _).take (Tryz.prog.cellsOf 23)) = _ := hf 1 _ rfl
  have c1 : Tryz.prog.cellsOf 23 = 1 := by kernel_rfl
  rw [c1, List.getElem?_eq_getElem (by omega)] at g1
  obtain ⟨y1, o1, r1⟩ := opn23 g1
  have g2 : DataW.trod _ _ _ _ _ _ _ 24 ((List.drop 2 _).take (Tryz.prog.cellsOf 24)) = _ := hf 2 _ rfl
  have c2 : Tryz.prog.cellsOf 24 = 1 := by kernel_rfl
  rw [c2, List.getElem?_eq_getElem (by omega)] at g2
  obtain ⟨y2, o2, r2⟩ := opn24 g2
  have g3 : DataW.trod _ _ _ _ _ _ _ 9 ((List.drop 3 _).take (Tryz.prog.cellsOf 9)) = _ := hf 3 _ rfl
  have c3 : Tryz.prog.cellsOf 9 = 1 := by kernel_rfl
  rw [c3, List.getElem?_eq_getElem (by omega)] at g3
  obtain ⟨y3, o3, r3⟩ := opn9 g3
  have g4 : DataW.trod _ _ _ _ _ _ _ 3 ((List.drop 4 _).take (Tryz.prog.cellsOf 3)) = _ := hf 4 _ rfl
  have c4 : Tryz.prog.cellsOf 3 = 1 := by kernel_rfl
  rw [c4, List.getElem?_eq_getElem (by omega)] at g4
  obtain ⟨y4, o4, r4⟩ := opn3 g4
  have g5 : DataW.trod _ _ _ _ _ _ _ 3 ((List.drop 5 _).take (Tryz.prog.cellsOf 3)) = _ := hf 5 _ rfl
  have c5 : Tryz.prog.cellsOf 3 = 1 := by kernel_rfl
  rw [c5, List.getElem?_eq_getElem (by omega)] at g5
  obtain ⟨y5, o5, r5⟩ := opn3 g5
  refine ⟨⟨y0, y1, y2, y3, y4, y5⟩, by simp only [QM, o0, o1, o2, o3, o4, o5, Bool.and_self], ?_⟩
  exact (Dn r0 rfl (Dn r1 rfl (Dn r2 rfl (Dn r3 rfl (Dn r4 rfl (Dn r5 rfl (OB hlen)))))))
theorem opn27 : HZ Tryz.prog 27 (fun ys : (List Af) => [AE 6 (ys.map Ad)]) (fun ys : (List Af) => ys.all QM && decide (ys.length ≤ 9223372036854775807)) := HZ.slice Tryz.underlying27 (by kernel_rfl) (by decide) opn26 CN (fun _ => rfl)
theorem contract (H : Type) (enc : TypeId × Value → H) (W : World) (base : Nat) (args : Array Value) (ds gs : List (DataW H)) (before : List MemPlace)
    (hval : ∀ (j : Nat) t v, Tryz.f7.params[j]? = some t → args[j]? = some v → Value.okWide Tryz.prog W .any base t v)
    (hW : DataW.Whole enc Tryz.prog Tryz.f7.params.toList Rows.filterJoinsSpec.vars false W args.toList ds gs before)
    (hz : (DataW.weightsEach Tryz.prog (Tryz.f7.params.toList ++ []) (ds ++ gs)).all (· ≤ reachBytes) = true) (hL : laidMet Tryz.prog KW W) :
    Calls Tryz.prog 7 args W fun e W' => ∃ v, e = .returned v ∧ Rows.filterJoinsSpec.post enc Tryz.prog Tryz.f7 false true false false W args v W' := by
  have hE := TU hL
  have hW' := hW
  obtain ⟨p, q, hA0, hV, hbf, hfz, hnd⟩ := hW
  have hA : DataW.TrodAll enc Tryz.prog W 0 (fun _ => true) true Tryz.f7.params.toList args.toList ds p := hA0
  rw [Tryz.params7] at hA hval hz
  obtain ⟨rfl, rfl⟩ := trodVars_none hV
  obtain ⟨v0, vs0, d0, ds0, p0, q0, hargs, hd0, hq0, h0, r0⟩ := trodAll_cons hA
  obtain ⟨v1, vs1, d1, ds1, p1, q1, hv1, hd1, hq1, h1, r1⟩ := trodAll_cons r0
  obtain ⟨v2, vs2, d2, ds2, p2, q2, hv2, hd2, hq2, h2, r2⟩ := trodAll_cons r1
  obtain ⟨hvn, hdn, hqn⟩ := trodAll_nil r2
  obtain rfl : args = #[v0, v1, v2] := by cases args; simp_all
  obtain rfl : ds = [d0, d1, d2] := by simp_all
  obtain ⟨a0, l0, c0, e0⟩ := okWide_slice Tryz.underlying27 (hval 0 27 v0 rfl rfl)
  obtain ⟨y0, oy0, hr0⟩ := HZ.val (opn27) (r := fun y => AE 6 (List.map Ad y)) (fun _ => rfl) (by rw [e0]; rfl) h0
  obtain ⟨a1, l1, c1, e1⟩ := okWide_slice Tryz.underlying27 (hval 1 27 v1 rfl rfl)
  obtain ⟨y1, oy1, hr1⟩ := HZ.val (opn27) (r := fun y => AE 6 (List.map Ad y)) (fun _ => rfl) (by rw [e1]; rfl) h1
  obtain ⟨a2, l2, c2, e2⟩ := okWide_slice Tryz.underlying28 (hval 2 28 v2 rfl rfl)
  obtain ⟨y2, oy2, hr2⟩ := HZ.val (opn28) (r := fun y => AE 4 (List.map Ab y)) (fun _ => rfl) (by rw [e2]; rfl) h2
  obtain ⟨F, hF⟩ := Vi y0 y1 y2 oy0 oy1 oy2
  refine (QW F y0 y1 y2 true hF W (ZW W) [v0, v1, v2] ⟨hr0, hr1, hr2, trivial⟩ (Q3 hE)).mono fun e W' ⟨R, v, Ho, Z', he, ⟨hR, _⟩, hp, hs⟩ => ?_
  subst hR
  obtain rfl : v = .bool true := hp
  exact ⟨_, he, P1 Sw (by kernel_rfl) rfl rfl Ou hW' rfl rfl rfl (Q4 hs)⟩
theorem witness_row (os : Os) {H : Type} (enc : TypeId × Value → H) :
    (OpenSpec.ofChange Rows.filterJoinsSpec).preRow enc Tryz.prog Tryz.f7 Rows.filterJoinsRow.domain false Rows.filterJoinsRow.laid ((HH os).forCall (fun _ _ => 0) ⟨#[], #[.slice none 0 0, .slice none 0 0, .slice none 0 0], []⟩).memory #[.slice none 0 0, .slice none 0 0, .slice none 0 0] := by
  have hw : (DataW.whole enc Tryz.prog ((HH os).forCall (fun _ _ => 0) ⟨#[], #[.slice none 0 0, .slice none 0 0, .slice none 0 0], []⟩).memory Tryz.f7.params.toList Rows.filterJoinsSpec.vars false #[.slice none 0 0, .slice none 0 0, .slice none 0 0].toList 8).map (fun x => (x.1, x.2.1)) =
      some ([.nil, .nil, .nil], []) := by kernel_rfl
  obtain ⟨⟨x1, x2, x3⟩, hx, hx1⟩ := Option.map_eq_some_iff.1 hw
  simp only [Prod.mk.injEq] at hx1
  obtain ⟨rfl, rfl⟩ := hx1
  exact OpenSpec.preRow_of_cond 8 hx (by kernel_rfl) (fun k hk => by cases hk) (by kernel_rfl) (QV os _)
theorem lifted (os : Os) (started : os.Started) (H : Type) (enc : TypeId × Value → H) (F : Stop.Interp) :
    ReturnsInHanded {} Tryz.checked os 7 .any ((OpenSpec.ofChange Rows.filterJoinsSpec).preRow enc Tryz.prog Tryz.f7 Rows.filterJoinsRow.domain false Rows.filterJoinsRow.laid) (((OpenSpec.ofChange Rows.filterJoinsSpec).at F).post enc Tryz.prog Tryz.f7 false true false false) := by
  refine returnsInHanded_of_row (C := Tryz.checked) (s := (OpenSpec.ofChange Rows.filterJoinsSpec)) own started (by kernel_rfl) Tryz.func7
    (witness_row_atRef (enc := enc) (C := Tryz.checked) false (HH os) #[.slice none 0 0, .slice none 0 0, .slice none 0 0] rfl (by kernel_rfl) (by kernel_rfl) (by kernel_rfl) (witness_row os enc)) ?_
  intro W base args ds gs before hval hW _ _ hz hL _ _
  exact contract H enc W base args ds gs before hval hW hz hL
theorem said : Rows.FilterJoinsSaid :=
  OpenClaim.holds_of_cond 7 Tryz.f7 rfl rfl rfl rfl rfl rfl rfl ⟨rfl, rfl, rfl, rfl, rfl⟩ rfl rfl rfl rfl rfl (by kernel_rfl) Tryz.func7 (by kernel_rfl)
    (of_decide_eq_true (by kernel_rfl)) (by unfold Func.isWrapper; first | (rw [if_pos (by decide +kernel)]; kernel_rfl) | (rw [if_neg (by decide +kernel)]; exact ⟨rfl, rfl⟩))
    (fun os started H enc _ F => by rw [OpenClaim.pre_eq_preRow]; exact lifted os started H enc F)
theorem plain (f : FuncId) (fn : Func) (hf : Tryz.pinned.checked.prog.funcNamed "faas/faaslaw25.FilterJoins" = some f) (hfn : Tryz.pinned.checked.prog.funcs[f]? = some fn) :
    true = Tryz.pinned.checked.prog.looks [] ∧ ∀ (j : Nat) t, fn.params[j]? = some t → Tryz.pinned.checked.prog.wantsStandIn t = false := by
  obtain rfl : f = 7 := Option.some.inj ((show Tryz.prog.funcNamed "faas/faaslaw25.FilterJoins" = some 7 by kernel_rfl).symm.trans hf) |>.symm
  obtain rfl : fn = Tryz.f7 := (Option.some.inj (Tryz.func7.symm.trans hfn)).symm
  refine ⟨by kernel_rfl, fun j t ht => ?_⟩
  rw [Tryz.params7] at ht
  have hm := Array.mem_of_getElem? ht
  have hall : ∀ t ∈ (#[27, 27, 28] : Array TypeId), Tryz.prog.wantsStandIn t = false := by
    intro t ht
    have := List.all_eq_true.1 (show ([27, 27, 28] : List TypeId).all (fun t => !Tryz.prog.wantsStandIn t) = true by kernel_rfl) t (by simpa using ht)
    simpa using this
  exact hall t hm
theorem card : Rows.FilterJoinsCardSaid :=
  Claim7.holds_tied_plain_at .later [] _ _ _ _ said (fun _ h => by cases h) (by kernel_rfl) (fun _ h => by cases h) filterJoins_row_tie rfl ⟨rfl, rfl⟩ (by kernel_rfl) rfl plain (by kernel_rfl)
end Go.Proofs.YtghdglcmblpbeaaGreatDoor.lawFilterJoins
namespace Go.Proofs.YtghdglcmblpbeaaGreatDoor
theorem filterJoins_card : Rows.FilterJoinsCardSaid := lawFilterJoins.card
end Go.Proofs.YtghdglcmblpbeaaGreatDoor
#print axioms Go.Proofs.YtghdglcmblpbeaaGreatDoor.filterJoins_card
