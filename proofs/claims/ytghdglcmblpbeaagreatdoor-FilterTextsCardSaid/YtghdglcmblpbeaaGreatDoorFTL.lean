/-
  The law FilterTexts holds of the given program for every input.
-/
import Derived.Test.YtghdglcmblpbeaaGreatDoorFT7
namespace Go.Proofs.YtghdglcmblpbeaaGreatDoor.lawFilterTexts
open Go Go.Proofs.YtghdglcmblpbeaaGreatDoor.Q Go.ChangeShapes Go.WideShapes Go.ChangeAt Go.RowKit
open Go.ChangeMaps (open_string)
set_option linter.unusedVariables false
set_option linter.unusedSimpArgs false
set_option maxRecDepth 100000
theorem opn9 : Me Tryz.prog 9 eS YS := Me.str Tryz.underlying9 (fun _ => rfl)
theorem opn22 : Me Tryz.prog 22 (fun ys : (List Am) => [AB 1 (ys.map eS)]) (fun ys : (List Am) => ys.all YS && decide (ys.length ≤ 9223372036854775807)) := Me.slice Tryz.underlying22 (by kernel_rfl) (by decide) opn9 I4 (fun _ => rfl)
theorem opn23 : Me Tryz.prog 23 CB (Bu .i64) := Me.int Tryz.underlying23 (fun _ => rfl)
theorem opn52 : Me Tryz.prog 52 CB (Bu .i64) := Me.int Tryz.underlying52 (fun _ => rfl)
theorem opn3 : Me Tryz.prog 3 CB (Bu .i64) := Me.int Tryz.underlying3 (fun _ => rfl)
-- struct Ab
theorem opn54 : Me Tryz.prog 54 Ac X9 := fun h => by
  obtain ⟨xs, k, _, _, hlen, hxl, hf⟩ := DataW.trod_struct Tryz.underlying54 h
  have hxl : xs.length = 4 := hxl
  have ct : Tryz.prog.cellsOf 54 = 4 := by kernel_rfl
  rw [ct] at hlen
  have g0 : DataW.trod _ _ _ _ _ _ _ 52 ((List.drop 0 _).take (Tryz.prog.cellsOf 52)) = _ := hf 0 _ rfl
  have c0 : Tryz.prog.cellsOf 52 = 1 := by kernel_rfl
  rw [c0, List.getElem?_eq_getElem (by omega)] at g0
  obtain ⟨y0, o0, r0⟩ := opn52 g0
  have g1 : DataW.trod _ _ _ _ _ _ _ 3 ((List.drop 1 _).take (Tryz.prog.cellsOf 3)) = _ := hf 1 _ rfl
  have c1 : Tryz.prog.cellsOf 3 = 1 := by kernel_rfl
  rw [c1, List.getElem?_eq_getElem (by omega)] at g1
  obtain ⟨y1, o1, r1⟩ := opn3 g1
  have g2 : DataW.trod _ _ _ _ _ _ _ 9 ((List.drop 2 _).take (Tryz.prog.cellsOf 9)) = _ := hf 2 _ rfl
  have c2 : Tryz.prog.cellsOf 9 = 1 := by kernel_rfl
  rw [c2, List.getElem?_eq_getElem (by omega)] at g2
  obtain ⟨y2, o2, r2⟩ := opn9 g2
  have g3 : DataW.trod _ _ _ _ _ _ _ 3 ((List.drop 3 _).take (Tryz.prog.cellsOf 3)) = _ := hf 3 _ rfl
  have c3 : Tryz.prog.cellsOf 3 = 1 := by kernel_rfl
  rw [c3, List.getElem?_eq_getElem (by omega)] at g3
  obtain ⟨y3, o3, r3⟩ := opn3 g3
  refine ⟨⟨y0, y1, y2, y3⟩, by simp only [X9, o0, o1, o2, o3, Bool.and_self], ?_⟩
  exact (Gj r0 rfl (Gj r1 rfl (Gj r2 rfl (Gj r3 rfl (UD hlen)))))
theorem opn28 : Me Tryz.prog 28 (fun ys : (List Ab) => [AB 4 (ys.map Ac)]) (fun ys : (List Ab) => ys.all X9 && decide (ys.length ≤ 9223372036854775807)) := Me.slice Tryz.underlying28 (by kernel_rfl) (by decide) opn54 AO (fun _ => rfl)
theorem opn24 : Me Tryz.prog 24 (fun ys : (List (List Ab)) => [AB 1 (ys.map Ad)]) (fun ys : (List (List Ab)) => ys.all (fun ys : (List Ab) => ys.all X9 && decide (ys.length ≤ 9223372036854775807)) && decide (ys.length ≤ 9223372036854775807)) := Me.slice Tryz.underlying24 (by kernel_rfl) (by decide) opn28 Be (fun _ => rfl)
-- struct Aj
theorem opn26 : Me Tryz.prog 26 Af AaD := fun h => by
  obtain ⟨xs, k, _, _, hlen, hxl, hf⟩ := DataW.trod_struct Tryz.underlying26 h
  have hxl : xs.length = 6 := hxl
  have ct : Tryz.prog.cellsOf 26 = 6 := by kernel_rfl
  rw [ct] at hlen
  have g0 : DataW.trod _ _ _ _ _ _ _ 22 ((List.drop 0 _).take (Tryz.prog.cellsOf 22)) = _ := hf 0 _ rfl
  have c0 : Tryz.prog.cellsOf 22 = 1 := by kernel_rfl
  rw [c0, List.getElem?_eq_getElem (by omega)] at g0
  obtain ⟨y0, o0, r0⟩ := opn22 g0
  have g1 : DataW.trod _ _ _ _ _ _ _ 23 ((List.drop 1 _).take (Tryz.prog.cellsOf 23)) = _ := hf 1 _ rfl
  have c1 : Tryz.prog.cellsOf 23 = 1 := by kernel_rfl
  rw [c1, List.getElem?_eq_getElem (by omega)] at g1
  obtain ⟨y1, o1, r1⟩ := opn23 g1
  have g2 : DataW.trod _ _ _ _ _ _ _ 24 ((List.drop 2 _).take (Tryz.prog.cellsOf 24)) = _ := hf 2 _ rfl
  have c2 : Tryz.prog.cellsOf 24 = 1 := by kernel_rfl
  rw [c2, List.getElem?_eq_getElem (by omega)] at g2
  obtain ⟨y2, o2, r2⟩ := opn24 g2
  have g3 : DataW.trod _ _ _ _ _ _ _ 9 ((List.drop 3 _).take (Tryz.prog.cellsOf 9)) = _ := hf 3 _ rfl
  have c3 : Tryz.prog.cellsOf 9 = 1 := by kernel_rfl
  rw [c3, List.getElem?_eq_getElem (by omega)] at g3
  obtain ⟨y3, o3, r3⟩ := opn9 g3
  have g4 : DataW.trod _ _ _ _ _ _ _ 3 ((List.drop 4 _).take (Tryz.prog.cellsOf 3)) = _ := hf 4 _ rfl
  have c4 : Tryz.prog.cellsOf 3 = 1 := by kernel_rfl
  rw [c4, List.getElem?_eq_getElem (by omega)] at g4
  obtain ⟨y4, o4, r4⟩ := opn3 g4
  have g5 : DataW.trod _ _ _ _ _ _ _ 3 ((List.drop 5 _).take (Tryz.prog.cellsOf 3)) = _ := hf 5 _ rfl
  have c5 : Tryz.prog.cellsOf 3 = 1 := by kernel_rfl
  rw [c5, List.getElem?_eq_getElem (by omega)] at g5
  obtain ⟨y5, o5, r5⟩ := opn3 g5
  refine ⟨⟨y0, y1, y2, y3, y4, y5⟩, by simp only [AaD, o0, o1, o2, o3, o4, o5, Bool.and_self], ?_⟩
  exact (Gj r0 rfl (Gj r1 rfl (Gj r2 rfl (Gj r3 rfl (Gj r4 rfl (Gj r5 rfl (UD hlen)))))))
theorem contract (H : Type) (enc : TypeId × Value → H) (W : World) (base : Nat) (args : Array Value) (ds gs : List (DataW H)) (before : List MemPlace)
    (hval : ∀ (j : Nat) t v, Tryz.f4.params[j]? = some t → args[j]? = some v → Value.okWide Tryz.prog W .any base t v)
    (hW : DataW.Whole enc Tryz.prog Tryz.f4.params.toList Rows.filterTextsSpec.vars false W args.toList ds gs before)
    (hz : (DataW.weightsEach Tryz.prog (Tryz.f4.params.toList ++ []) (ds ++ gs)).all (· ≤ reachBytes) = true) (hL : laidMet Tryz.prog P4 W) :
    Calls Tryz.prog 4 args W fun e W' => ∃ v, e = .returned v ∧ Rows.filterTextsSpec.post enc Tryz.prog Tryz.f4 false true false false W args v W' := by
  have hE := Abn hL
  have hW' := hW
  obtain ⟨p, q, hA0, hV, hbf, hfz, hnd⟩ := hW
  have hA : DataW.TrodAll enc Tryz.prog W 0 (fun _ => true) true Tryz.f4.params.toList args.toList ds p := hA0
  rw [Tryz.params4] at hA hval hz
  obtain ⟨rfl, rfl⟩ := trodVars_none hV
  obtain ⟨v0, vs0, d0, ds0, p0, q0, hargs, hd0, hq0, h0, r0⟩ := trodAll_cons hA
  obtain ⟨v1, vs1, d1, ds1, p1, q1, hv1, hd1, hq1, h1, r1⟩ := trodAll_cons r0
  obtain ⟨hvn, hdn, hqn⟩ := trodAll_nil r1
  obtain rfl : args = #[v0, v1] := by cases args; simp_all
  obtain rfl : ds = [d0, d1] := by simp_all
  obtain ⟨a0, e0, _⟩ := okWide_struct Tryz.underlying26 (hval 0 26 v0 rfl rfl)
  obtain ⟨y0, oy0, hr0⟩ := Me.valAgg (opn26) (by rw [e0] at h0; exact h0)
  rw [← e0] at hr0
  obtain ⟨a1, e1⟩ := okWide_string Tryz.underlying9 (hval 1 9 v1 rfl rfl)
  obtain ⟨y1, oy1, hr1⟩ := Me.val (opn9) (r := fun y => rS y) (fun _ => rfl) (by rw [e1]; rfl) h1
  obtain ⟨F, hF⟩ := law y0 y1 oy0 oy1
  refine (XQ F y0 y1 true hF W (ZW W) [v0, v1] ⟨hr0, hr1, trivial⟩ (Xi hE)).mono fun e W' ⟨R, v, Ho, Z', he, ⟨hR, _⟩, hp, hs⟩ => ?_
  subst hR
  obtain rfl : v = .bool true := hp
  exact ⟨_, he, VP Z7 (by kernel_rfl) rfl rfl Uv hW' rfl rfl rfl (Xj hs)⟩
theorem witness_row (os : Os) {H : Type} (enc : TypeId × Value → H) :
    (OpenSpec.ofChange Rows.filterTextsSpec).preRow enc Tryz.prog Tryz.f4 Rows.filterTextsRow.domain false Rows.filterTextsRow.laid ((Lu os).forCall (fun _ _ => 0) ⟨#[], #[.agg #[(.slice none 0 0), (.int .i64 0), (.slice none 0 0), (.string ⟨#[]⟩), (.int .i64 0), (.int .i64 0)], .string ⟨#[]⟩], []⟩).memory #[.agg #[(.slice none 0 0), (.int .i64 0), (.slice none 0 0), (.string ⟨#[]⟩), (.int .i64 0), (.int .i64 0)], .string ⟨#[]⟩] := by
  have hw : (DataW.whole enc Tryz.prog ((Lu os).forCall (fun _ _ => 0) ⟨#[], #[.agg #[(.slice none 0 0), (.int .i64 0), (.slice none 0 0), (.string ⟨#[]⟩), (.int .i64 0), (.int .i64 0)], .string ⟨#[]⟩], []⟩).memory Tryz.f4.params.toList Rows.filterTextsSpec.vars false #[.agg #[(.slice none 0 0), (.int .i64 0), (.slice none 0 0), (.string ⟨#[]⟩), (.int .i64 0), (.int .i64 0)], .string ⟨#[]⟩].toList 8).map (fun x => (x.1, x.2.1)) =
      some ([.agg [.nil, .lit (.int .i64 0), .nil, .lit (.string []), .lit (.int .i64 0), .lit (.int .i64 0)], .lit (.string [])], []) := by kernel_rfl
  obtain ⟨⟨x1, x2, x3⟩, hx, hx1⟩ := Option.map_eq_some_iff.1 hw
  simp only [Prod.mk.injEq] at hx1
  obtain ⟨rfl, rfl⟩ := hx1
  exact OpenSpec.preRow_of_cond 8 hx (by kernel_rfl) (fun k hk => by cases hk) (by kernel_rfl) (XP os _)
theorem lifted (os : Os) (started : os.Started) (H : Type) (enc : TypeId × Value → H) (F : Stop.Interp) :
    ReturnsInHanded {} Tryz.checked os 4 .any ((OpenSpec.ofChange Rows.filterTextsSpec).preRow enc Tryz.prog Tryz.f4 Rows.filterTextsRow.domain false Rows.filterTextsRow.laid) (((OpenSpec.ofChange Rows.filterTextsSpec).at F).post enc Tryz.prog Tryz.f4 false true false false) := by
  refine returnsInHanded_of_row (C := Tryz.checked) (s := (OpenSpec.ofChange Rows.filterTextsSpec)) own started (by kernel_rfl) Tryz.func4
    (witness_row_atRef (enc := enc) (C := Tryz.checked) false (Lu os) #[.agg #[(.slice none 0 0), (.int .i64 0), (.slice none 0 0), (.string ⟨#[]⟩), (.int .i64 0), (.int .i64 0)], .string ⟨#[]⟩] rfl (by kernel_rfl) (by kernel_rfl) (by kernel_rfl) (witness_row os enc)) ?_
  intro W base args ds gs before hval hW _ _ hz hL _ _
  exact contract H enc W base args ds gs before hval hW hz hL
theorem said : Rows.FilterTextsSaid :=
  OpenClaim.holds_of_cond 4 Tryz.f4 rfl rfl rfl rfl rfl rfl rfl ⟨rfl, rfl, rfl, rfl, rfl⟩ rfl rfl rfl rfl rfl (by kernel_rfl) Tryz.func4 (by kernel_rfl)
    (of_decide_eq_true (by kernel_rfl)) (by unfold Func.isWrapper; first | (rw [if_pos (by decide +kernel)]; kernel_rfl) | (rw [if_neg (by decide +kernel)]; exact ⟨rfl, rfl⟩))
    (fun os started H enc _ F => by rw [OpenClaim.pre_eq_preRow]; exact lifted os started H enc F)
theorem plain (f : FuncId) (fn : Func) (hf : Tryz.pinned.checked.prog.funcNamed "faas/faaslaw25.FilterTexts" = some f) (hfn : Tryz.pinned.checked.prog.funcs[f]? = some fn) :
    true = Tryz.pinned.checked.prog.looks [] ∧ ∀ (j : Nat) t, fn.params[j]? = some t → Tryz.pinned.checked.prog.wantsStandIn t = false := by
  obtain rfl : f = 4 := Option.some.inj ((show Tryz.prog.funcNamed "faas/faaslaw25.FilterTexts" = some 4 by kernel_rfl).symm.trans hf) |>.symm
  obtain rfl : fn = Tryz.f4 := (Option.some.inj (Tryz.func4.symm.trans hfn)).symm
  refine ⟨by kernel_rfl, fun j t ht => ?_⟩
  rw [Tryz.params4] at ht
  have hm := Array.mem_of_getElem? ht
  have hall : ∀ t ∈ (#[26, 9] : Array TypeId), Tryz.prog.wantsStandIn t = false := by
    intro t ht
    have := List.all_eq_true.1 (show ([26, 9] : List TypeId).all (fun t => !Tryz.prog.wantsStandIn t) = true by kernel_rfl) t (by simpa using ht)
    simpa using this
  exact hall t hm
theorem card : Rows.FilterTextsCardSaid :=
  Claim7.holds_tied_plain_at .later [] _ _ _ _ said (fun _ h => by cases h) (by kernel_rfl) (fun _ h => by cases h) filterTexts_row_tie rfl ⟨rfl, rfl⟩ (by kernel_rfl) rfl plain (by kernel_rfl)
end Go.Proofs.YtghdglcmblpbeaaGreatDoor.lawFilterTexts
namespace Go.Proofs.YtghdglcmblpbeaaGreatDoor
theorem filterTexts_card : Rows.FilterTextsCardSaid := lawFilterTexts.card
end Go.Proofs.YtghdglcmblpbeaaGreatDoor
#print axioms Go.Proofs.YtghdglcmblpbeaaGreatDoor.filterTexts_card
