/-
  The PX TimerFiresInOrder holds of the given program for every input.
-/
import Derived.Test.YtkoiaconljdbeaaDoorTF3
namespace Go.Proofs.YtkoiaconljdbeaaDoor.lawTimerFiresInOrder
open Go Go.Proofs.YtkoiaconljdbeaaDoor.Q Go.ChangeShapes Go.WideShapes Go.ChangeAt Go.RowKit
open Go.ChangeMaps (open_string)
set_option linter.unusedVariables false
set_option linter.unusedSimpArgs false
set_option maxRecDepth 100000
theorem opn3 : GQ Tryd.prog 3 Nl (Ci .i64) := GQ.int Tryd.underlying3 (fun _ => rfl)
theorem opn9 : GQ Tryd.prog 9 eS Nu := GQ.str Tryd.underlying9 (fun _ => rfl)
theorem opn68 : GQ Tryd.prog 68 Nl (Ci .i64) := GQ.int Tryd.underlying68 (fun _ => rfl)
-- struct Ad
theorem opn70 : GQ Tryd.prog 70 Ae MI := fun h => by
  obtain ⟨xs, k, _, _, hlen, hxl, hf⟩ := DataW.trod_struct Tryd.underlying70 h
  have hxl : xs.length = 4 := hxl
  have ct : Tryd.prog.cellsOf 70 = 4 := by kernel_rfl
  rw [ct] at hlen
  have g0 : DataW.trod _ _ _ _ _ _ _ 68 ((List.drop 0 _).take (Tryd.prog.cellsOf 68)) = _ := hf 0 _ rfl
  have c0 : Tryd.prog.cellsOf 68 = 1 := by kernel_rfl
  rw [c0, List.getElem?_eq_getElem (by omega)] at g0
  obtain ⟨y0, o0, r0⟩ := opn68 g0
  have g1 : DataW.trod _ _ _ _ _ _ _ 3 ((List.drop 1 _).take (Tryd.prog.cellsOf 3)) = _ := hf 1 _ rfl
  have c1 : Tryd.prog.cellsOf 3 = 1 := by kernel_rfl
  rw [c1, List.getElem?_eq_getElem (by omega)] at g1
  obtain ⟨y1, o1, r1⟩ := opn3 g1
  have g2 : DataW.trod _ _ _ _ _ _ _ 9 ((List.drop 2 _).take (Tryd.prog.cellsOf 9)) = _ := hf 2 _ rfl
  have c2 : Tryd.prog.cellsOf 9 = 1 := by kernel_rfl
  rw [c2, List.getElem?_eq_getElem (by omega)] at g2
  obtain ⟨y2, o2, r2⟩ := opn9 g2
  have g3 : DataW.trod _ _ _ _ _ _ _ 3 ((List.drop 3 _).take (Tryd.prog.cellsOf 3)) = _ := hf 3 _ rfl
  have c3 : Tryd.prog.cellsOf 3 = 1 := by kernel_rfl
  rw [c3, List.getElem?_eq_getElem (by omega)] at g3
  obtain ⟨y3, o3, r3⟩ := opn3 g3
  refine ⟨⟨y0, y1, y2, y3⟩, by simp only [MI, o0, o1, o2, o3, Bool.and_self], ?_⟩
  exact (BS r0 rfl (BS r1 rfl (BS r2 rfl (BS r3 rfl (IS hlen)))))
theorem opn31 : GQ Tryd.prog 31 (fun ys : (List Ad) => [AV 4 (ys.map Ae)]) (fun ys : (List Ad) => ys.all MI && decide (ys.length ≤ 9223372036854775807)) := GQ.slice Tryd.underlying31 (by kernel_rfl) (by decide) opn70 CY (fun _ => rfl)
-- struct Ab
theorem opn33 : GQ Tryd.prog 33 Ac NQ := fun h => by
  obtain ⟨xs, k, _, _, hlen, hxl, hf⟩ := DataW.trod_struct Tryd.underlying33 h
  have hxl : xs.length = 5 := hxl
  have ct : Tryd.prog.cellsOf 33 = 5 := by kernel_rfl
  rw [ct] at hlen
  have g0 : DataW.trod _ _ _ _ _ _ _ 9 ((List.drop 0 _).take (Tryd.prog.cellsOf 9)) = _ := hf 0 _ rfl
  have c0 : Tryd.prog.cellsOf 9 = 1 := by kernel_rfl
  rw [c0, List.getElem?_eq_getElem (by omega)] at g0
  obtain ⟨y0, o0, r0⟩ := opn9 g0
  have g1 : DataW.trod _ _ _ _ _ _ _ 3 ((List.drop 1 _).take (Tryd.prog.cellsOf 3)) = _ := hf 1 _ rfl
  have c1 : Tryd.prog.cellsOf 3 = 1 := by kernel_rfl
  rw [c1, List.getElem?_eq_getElem (by omega)] at g1
  obtain ⟨y1, o1, r1⟩ := opn3 g1
  have g2 : DataW.trod _ _ _ _ _ _ _ 9 ((List.drop 2 _).take (Tryd.prog.cellsOf 9)) = _ := hf 2 _ rfl
  have c2 : Tryd.prog.cellsOf 9 = 1 := by kernel_rfl
  rw [c2, List.getElem?_eq_getElem (by omega)] at g2
  obtain ⟨y2, o2, r2⟩ := opn9 g2
  have g3 : DataW.trod _ _ _ _ _ _ _ 9 ((List.drop 3 _).take (Tryd.prog.cellsOf 9)) = _ := hf 3 _ rfl
  have c3 : Tryd.prog.cellsOf 9 = 1 := by kernel_rfl
  rw [c3, List.getElem?_eq_getElem (by omega)] at g3
  obtain ⟨y3, o3, r3⟩ := opn9 g3
  have g4 : DataW.trod _ _ _ _ _ _ _ 31 ((List.drop 4 _).take (Tryd.prog.cellsOf 31)) = _ := hf 4 _ rfl
  have c4 : Tryd.prog.cellsOf 31 = 1 := by kernel_rfl
  rw [c4, List.getElem?_eq_getElem (by omega)] at g4
  obtain ⟨y4, o4, r4⟩ := opn31 g4
  refine ⟨⟨y0, y1, y2, y3, y4⟩, by simp only [NQ, o0, o1, o2, o3, o4, Bool.and_self], ?_⟩
  exact (BS r0 rfl (BS r1 rfl (BS r2 rfl (BS r3 rfl (BS r4 rfl (IS hlen))))))
-- struct AE
theorem opn41 : GQ Tryd.prog 41 AD L0 := fun h => by
  obtain ⟨xs, k, _, _, hlen, hxl, hf⟩ := DataW.trod_struct Tryd.underlying41 h
  have hxl : xs.length = 3 := hxl
  have ct : Tryd.prog.cellsOf 41 = 7 := by kernel_rfl
  rw [ct] at hlen
  have g0 : DataW.trod _ _ _ _ _ _ _ 3 ((List.drop 0 _).take (Tryd.prog.cellsOf 3)) = _ := hf 0 _ rfl
  have c0 : Tryd.prog.cellsOf 3 = 1 := by kernel_rfl
  rw [c0, List.getElem?_eq_getElem (by omega)] at g0
  obtain ⟨y0, o0, r0⟩ := opn3 g0
  have g1 : DataW.trod _ _ _ _ _ _ _ 3 ((List.drop 1 _).take (Tryd.prog.cellsOf 3)) = _ := hf 1 _ rfl
  have c1 : Tryd.prog.cellsOf 3 = 1 := by kernel_rfl
  rw [c1, List.getElem?_eq_getElem (by omega)] at g1
  obtain ⟨y1, o1, r1⟩ := opn3 g1
  have g2 : DataW.trod _ _ _ _ _ _ _ 33 ((List.drop 2 _).take (Tryd.prog.cellsOf 33)) = _ := hf 2 _ rfl
  have c2 : Tryd.prog.cellsOf 33 = 5 := by kernel_rfl
  rw [c2, List.getElem?_eq_getElem (by omega)] at g2
  obtain ⟨y2, o2, r2⟩ := opn33 g2
  refine ⟨⟨y0, y1, y2⟩, by simp only [L0, o0, o1, o2, Bool.and_self], ?_⟩
  exact (BS r0 rfl (BS r1 rfl (BS r2 rfl (IS hlen))))
theorem opn22 : GQ Tryd.prog 22 (fun ys : (List AE) => [AV 7 (ys.map AD)]) (fun ys : (List AE) => ys.all L0 && decide (ys.length ≤ 9223372036854775807)) := GQ.slice Tryd.underlying22 (by kernel_rfl) (by decide) opn41 G3 (fun _ => rfl)
theorem contract (H : Type) (enc : TypeId × Value → H) (W : World) (base : Nat) (args : Array Value) (ds gs : List (DataW H)) (before : List MemPlace)
    (hval : ∀ (j : Nat) t v, Tryd.f3.params[j]? = some t → args[j]? = some v → Value.okWide Tryd.prog W .any base t v)
    (hW : DataW.Whole enc Tryd.prog Tryd.f3.params.toList Rows.timerFiresInOrderSpec.vars false W args.toList ds gs before)
    (hz : (DataW.weightsEach Tryd.prog (Tryd.f3.params.toList ++ []) (ds ++ gs)).all (· ≤ reachBytes) = true) (hL : laidMet Tryd.prog HV W) :
    Calls Tryd.prog 3 args W fun e W' => ∃ v, e = .returned v ∧ Rows.timerFiresInOrderSpec.post enc Tryd.prog Tryd.f3 false true false false W args v W' := by
  have hE := Pb hL
  have hW' := hW
  obtain ⟨p, q, hA0, hV, hbf, hfz, hnd⟩ := hW
  have hA : DataW.TrodAll enc Tryd.prog W 0 (fun _ => true) true Tryd.f3.params.toList args.toList ds p := hA0
  rw [Tryd.params3] at hA hval hz
  obtain ⟨rfl, rfl⟩ := trodVars_none hV
  obtain ⟨v0, vs0, d0, ds0, p0, q0, hargs, hd0, hq0, h0, r0⟩ := trodAll_cons hA
  obtain ⟨v1, vs1, d1, ds1, p1, q1, hv1, hd1, hq1, h1, r1⟩ := trodAll_cons r0
  obtain ⟨v2, vs2, d2, ds2, p2, q2, hv2, hd2, hq2, h2, r2⟩ := trodAll_cons r1
  obtain ⟨hvn, hdn, hqn⟩ := trodAll_nil r2
  obtain rfl : args = #[v0, v1, v2] := by cases args; simp_all
  obtain rfl : ds = [d0, d1, d2] := by simp_all
  obtain ⟨a0, l0, c0, e0⟩ := okWide_slice Tryd.underlying22 (hval 0 22 v0 rfl rfl)
  obtain ⟨y0, oy0, hr0⟩ := GQ.val (opn22) (r := fun y => AV 7 (List.map AD y)) (fun _ => rfl) (by rw [e0]; rfl) h0
  obtain ⟨a1, e1⟩ := okWide_int Tryd.underlying3 (hval 1 3 v1 rfl rfl)
  obtain ⟨y1, oy1, hr1⟩ := GQ.val (opn3) (r := fun y => rI .i64 y) (fun _ => rfl) (by rw [e1]; rfl) h1
  obtain ⟨a2, e2⟩ := okWide_int Tryd.underlying3 (hval 2 3 v2 rfl rfl)
  obtain ⟨y2, oy2, hr2⟩ := GQ.val (opn3) (r := fun y => rI .i64 y) (fun _ => rfl) (by rw [e2]; rfl) h2
  obtain ⟨F, hF⟩ := PX y0 y1 y2 oy0 oy1 oy2
  refine (Nd F y0 y1 y2 true hF W (ZW W) [v0, v1, v2] ⟨hr0, hr1, hr2, trivial⟩ (M3 hE)).mono fun e W' ⟨R, v, Ho, Z', he, ⟨hR, _⟩, hp, hs⟩ => ?_
  subst hR
  obtain rfl : v = .bool true := hp
  exact ⟨_, he, Ly NX (by kernel_rfl) rfl rfl K7 hW' rfl rfl rfl (M4 hs)⟩
theorem witness_row (os : Os) {H : Type} (enc : TypeId × Value → H) :
    (OpenSpec.ofChange Rows.timerFiresInOrderSpec).preRow enc Tryd.prog Tryd.f3 Rows.timerFiresInOrderRow.domain false Rows.timerFiresInOrderRow.laid ((ED os).forCall (fun _ _ => 0) ⟨#[], #[.slice none 0 0, .int .i64 0, .int .i64 0], []⟩).memory #[.slice none 0 0, .int .i64 0, .int .i64 0] := by
  have hw : (DataW.whole enc Tryd.prog ((ED os).forCall (fun _ _ => 0) ⟨#[], #[.slice none 0 0, .int .i64 0, .int .i64 0], []⟩).memory Tryd.f3.params.toList Rows.timerFiresInOrderSpec.vars false #[.slice none 0 0, .int .i64 0, .int .i64 0].toList 8).map (fun x => (x.1, x.2.1)) =
      some ([.nil, .lit (.int .i64 0), .lit (.int .i64 0)], []) := by kernel_rfl
  obtain ⟨⟨x1, x2, x3⟩, hx, hx1⟩ := Option.map_eq_some_iff.1 hw
  simp only [Prod.mk.injEq] at hx1
  obtain ⟨rfl, rfl⟩ := hx1
  exact OpenSpec.preRow_of_cond 8 hx (by kernel_rfl) (fun k hk => by cases hk) (by kernel_rfl) (Na os _)
theorem lifted (os : Os) (started : os.Started) (H : Type) (enc : TypeId × Value → H) (F : Stop.Interp) :
    ReturnsInHanded {} Tryd.checked os 3 .any ((OpenSpec.ofChange Rows.timerFiresInOrderSpec).preRow enc Tryd.prog Tryd.f3 Rows.timerFiresInOrderRow.domain false Rows.timerFiresInOrderRow.laid) (((OpenSpec.ofChange Rows.timerFiresInOrderSpec).at F).post enc Tryd.prog Tryd.f3 false true false false) := by
  refine returnsInHanded_of_row (C := Tryd.checked) (s := (OpenSpec.ofChange Rows.timerFiresInOrderSpec)) own started (by kernel_rfl) Tryd.func3
    (witness_row_atRef (enc := enc) (C := Tryd.checked) false (ED os) #[.slice none 0 0, .int .i64 0, .int .i64 0] rfl (by kernel_rfl) (by kernel_rfl) (by kernel_rfl) (witness_row os enc)) ?_
  intro W base args ds gs before hval hW _ _ hz hL _ _
  exact contract H enc W base args ds gs before hval hW hz hL
theorem said : Rows.TimerFiresInOrderSaid :=
  OpenClaim.holds_of_cond 3 Tryd.f3 rfl rfl rfl rfl rfl rfl rfl ⟨rfl, rfl, rfl, rfl, rfl⟩ rfl rfl rfl rfl rfl (by kernel_rfl) Tryd.func3 (by kernel_rfl)
    (of_decide_eq_true (by kernel_rfl)) (by unfold Func.isWrapper; first | (rw [if_pos (by decide +kernel)]; kernel_rfl) | (rw [if_neg (by decide +kernel)]; exact ⟨rfl, rfl⟩))
    (fun os started H enc _ F => by rw [OpenClaim.pre_eq_preRow]; exact lifted os started H enc F)
theorem plain (f : FuncId) (fn : Func) (hf : Tryd.pinned.checked.prog.funcNamed "faas/faaslaw49.TimerFiresInOrder" = some f) (hfn : Tryd.pinned.checked.prog.funcs[f]? = some fn) :
    false = Tryd.pinned.checked.prog.looks [] ∧ ∀ (j : Nat) t, fn.params[j]? = some t → Tryd.pinned.checked.prog.wantsStandIn t = false := by
  obtain rfl : f = 3 := Option.some.inj ((show Tryd.prog.funcNamed "faas/faaslaw49.TimerFiresInOrder" = some 3 by kernel_rfl).symm.trans hf) |>.symm
  obtain rfl : fn = Tryd.f3 := (Option.some.inj (Tryd.func3.symm.trans hfn)).symm
  refine ⟨by kernel_rfl, fun j t ht => ?_⟩
  rw [Tryd.params3] at ht
  have hm := Array.mem_of_getElem? ht
  have hall : ∀ t ∈ (#[22, 3, 3] : Array TypeId), Tryd.prog.wantsStandIn t = false := by
    intro t ht
    have := List.all_eq_true.1 (show ([22, 3, 3] : List TypeId).all (fun t => !Tryd.prog.wantsStandIn t) = true by kernel_rfl) t (by simpa using ht)
    simpa using this
  exact hall t hm
theorem card : Rows.TimerFiresInOrderCardSaid :=
  Claim7.holds_tied_plain_at .later [] _ _ _ _ said (fun _ h => by cases h) (by kernel_rfl) (fun _ h => by cases h) timerFiresInOrder_row_tie rfl ⟨rfl, rfl⟩ (by kernel_rfl) rfl plain (by kernel_rfl)
end Go.Proofs.YtkoiaconljdbeaaDoor.lawTimerFiresInOrder
namespace Go.Proofs.YtkoiaconljdbeaaDoor
theorem timerFiresInOrder_card : Rows.TimerFiresInOrderCardSaid := lawTimerFiresInOrder.card
end Go.Proofs.YtkoiaconljdbeaaDoor
#print axioms Go.Proofs.YtkoiaconljdbeaaDoor.timerFiresInOrder_card
