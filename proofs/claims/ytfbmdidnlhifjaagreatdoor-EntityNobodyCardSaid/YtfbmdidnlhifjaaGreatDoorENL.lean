/-
  The PC EntityNobody holds of the given program for every input.
-/
import Derived.Test.YtfbmdidnlhifjaaGreatDoorEN3
namespace Go.Proofs.YtfbmdidnlhifjaaGreatDoor.lawEntityNobody
open Go Go.Proofs.YtfbmdidnlhifjaaGreatDoor.Q Go.ChangeShapes Go.WideShapes Go.ChangeAt Go.RowKit
open Go.ChangeMaps (open_string)
set_option linter.unusedVariables false
set_option linter.unusedSimpArgs false
set_option maxRecDepth 100000
theorem opn9 : Hn Tryz.prog 9 eS NK := Hn.str Tryz.underlying9 (fun _ => rfl)
theorem opn61 : Hn Tryz.prog 61 DQ (Cr .i64) := Hn.int Tryz.underlying61 (fun _ => rfl)
theorem opn3 : Hn Tryz.prog 3 DQ (Cr .i64) := Hn.int Tryz.underlying3 (fun _ => rfl)
-- struct Ac
theorem opn63 : Hn Tryz.prog 63 Ab MO := fun h => by
  obtain ⟨xs, k, _, _, hlen, hxl, hf⟩ := DataW.trod_struct Tryz.underlying63 h
  have hxl : xs.length = 4 := hxl
  have ct : Tryz.prog.cellsOf 63 = 4 := by kernel_rfl
  rw [ct] at hlen
  have g0 : DataW.trod _ _ _ _ _ _ _ 61 ((List.drop 0 _).take (Tryz.prog.cellsOf 61)) = _ := hf 0 _ rfl
  have c0 : Tryz.prog.cellsOf 61 = 1 := by kernel_rfl
  rw [c0, List.getElem?_eq_getElem (by omega)] at g0
  obtain ⟨y0, o0, r0⟩ := opn61 g0
  have g1 : DataW.trod _ _ _ _ _ _ _ 3 ((List.drop 1 _).take (Tryz.prog.cellsOf 3)) = _ := hf 1 _ rfl
  have c1 : Tryz.prog.cellsOf 3 = 1 := by kernel_rfl
  rw [c1, List.getElem?_eq_getElem (by omega)] at g1
  obtain ⟨y1, o1, r1⟩ := opn3 g1
  have g2 : DataW.trod _ _ _ _ _ _ _ 9 ((List.drop 2 _).take (Tryz.prog.cellsOf 9)) = _ := hf 2 _ rfl
  have c2 : Tryz.prog.cellsOf 9 = 1 := by kernel_rfl
  rw [c2, List.getElem?_eq_getElem (by omega)] at g2
  obtain ⟨y2, o2, r2⟩ := opn9 g2
  have g3 : DataW.trod _ _ _ _ _ _ _ 3 ((List.drop 3 _).take (Tryz.prog.cellsOf 3)) = _ := hf 3 _ rfl
  have c3 : Tryz.prog.cellsOf 3 = 1 := by kernel_rfl
  rw [c3, List.getElem?_eq_getElem (by omega)] at g3
  obtain ⟨y3, o3, r3⟩ := opn3 g3
  refine ⟨⟨y0, y1, y2, y3⟩, by simp only [MO, o0, o1, o2, o3, Bool.and_self], ?_⟩
  exact (Dg r0 rfl (Dg r1 rfl (Dg r2 rfl (Dg r3 rfl (Li hlen)))))
theorem opn22 : Hn Tryz.prog 22 (fun ys : (List Ac) => [AH 4 (ys.map Ab)]) (fun ys : (List Ac) => ys.all MO && decide (ys.length ≤ 9223372036854775807)) := Hn.slice Tryz.underlying22 (by kernel_rfl) (by decide) opn63 B1 (fun _ => rfl)
theorem opn23 : Hn Tryz.prog 23 (fun ys : (List (List Ac)) => [AH 1 (ys.map Ak)]) (fun ys : (List (List Ac)) => ys.all (fun ys : (List Ac) => ys.all MO && decide (ys.length ≤ 9223372036854775807)) && decide (ys.length ≤ 9223372036854775807)) := Hn.slice Tryz.underlying23 (by kernel_rfl) (by decide) opn22 C8 (fun _ => rfl)
-- struct A3
theorem opn25 : Hn Tryz.prog 25 Al O8 := fun h => by
  obtain ⟨xs, k, _, _, hlen, hxl, hf⟩ := DataW.trod_struct Tryz.underlying25 h
  have hxl : xs.length = 4 := hxl
  have ct : Tryz.prog.cellsOf 25 = 4 := by kernel_rfl
  rw [ct] at hlen
  have g0 : DataW.trod _ _ _ _ _ _ _ 9 ((List.drop 0 _).take (Tryz.prog.cellsOf 9)) = _ := hf 0 _ rfl
  have c0 : Tryz.prog.cellsOf 9 = 1 := by kernel_rfl
  rw [c0, List.getElem?_eq_getElem (by omega)] at g0
  obtain ⟨y0, o0, r0⟩ := opn9 g0
  have g1 : DataW.trod _ _ _ _ _ _ _ 9 ((List.drop 1 _).take (Tryz.prog.cellsOf 9)) = _ := hf 1 _ rfl
  have c1 : Tryz.prog.cellsOf 9 = 1 := by kernel_rfl
  rw [c1, List.getElem?_eq_getElem (by omega)] at g1
  obtain ⟨y1, o1, r1⟩ := opn9 g1
  have g2 : DataW.trod _ _ _ _ _ _ _ 9 ((List.drop 2 _).take (Tryz.prog.cellsOf 9)) = _ := hf 2 _ rfl
  have c2 : Tryz.prog.cellsOf 9 = 1 := by kernel_rfl
  rw [c2, List.getElem?_eq_getElem (by omega)] at g2
  obtain ⟨y2, o2, r2⟩ := opn9 g2
  have g3 : DataW.trod _ _ _ _ _ _ _ 23 ((List.drop 3 _).take (Tryz.prog.cellsOf 23)) = _ := hf 3 _ rfl
  have c3 : Tryz.prog.cellsOf 23 = 1 := by kernel_rfl
  rw [c3, List.getElem?_eq_getElem (by omega)] at g3
  obtain ⟨y3, o3, r3⟩ := opn23 g3
  refine ⟨⟨y0, y1, y2, y3⟩, by simp only [O8, o0, o1, o2, o3, Bool.and_self], ?_⟩
  exact (Dg r0 rfl (Dg r1 rfl (Dg r2 rfl (Dg r3 rfl (Li hlen)))))
theorem contract (H : Type) (enc : TypeId × Value → H) (W : World) (base : Nat) (args : Array Value) (ds gs : List (DataW H)) (before : List MemPlace)
    (hval : ∀ (j : Nat) t v, Tryz.f7.params[j]? = some t → args[j]? = some v → Value.okWide Tryz.prog W .any base t v)
    (hW : DataW.Whole enc Tryz.prog Tryz.f7.params.toList Rows.entityNobodySpec.vars false W args.toList ds gs before)
    (hz : (DataW.weightsEach Tryz.prog (Tryz.f7.params.toList ++ []) (ds ++ gs)).all (· ≤ reachBytes) = true) (hL : laidMet Tryz.prog Id W) :
    Calls Tryz.prog 7 args W fun e W' => ∃ v, e = .returned v ∧ Rows.entityNobodySpec.post enc Tryz.prog Tryz.f7 false true false false W args v W' := by
  have hE := OK hL
  have hW' := hW
  obtain ⟨p, q, hA0, hV, hbf, hfz, hnd⟩ := hW
  have hA : DataW.TrodAll enc Tryz.prog W 0 (fun _ => true) true Tryz.f7.params.toList args.toList ds p := hA0
  rw [Tryz.params7] at hA hval hz
  obtain ⟨rfl, rfl⟩ := trodVars_none hV
  obtain ⟨v0, vs0, d0, ds0, p0, q0, hargs, hd0, hq0, h0, r0⟩ := trodAll_cons hA
  obtain ⟨v1, vs1, d1, ds1, p1, q1, hv1, hd1, hq1, h1, r1⟩ := trodAll_cons r0
  obtain ⟨hvn, hdn, hqn⟩ := trodAll_nil r1
  obtain rfl : args = #[v0, v1] := by cases args; simp_all
  obtain rfl : ds = [d0, d1] := by simp_all
  obtain ⟨a0, e0, _⟩ := okWide_struct Tryz.underlying25 (hval 0 25 v0 rfl rfl)
  obtain ⟨y0, oy0, hr0⟩ := Hn.valAgg (opn25) (by rw [e0] at h0; exact h0)
  rw [← e0] at hr0
  obtain ⟨a1, e1⟩ := okWide_int Tryz.underlying3 (hval 1 3 v1 rfl rfl)
  obtain ⟨y1, oy1, hr1⟩ := Hn.val (opn3) (r := fun y => rI .i64 y) (fun _ => rfl) (by rw [e1]; rfl) h1
  obtain ⟨F, hF⟩ := PC y0 y1 oy0 oy1
  refine (KT F y0 y1 true hF W (ZW W) [v0, v1] ⟨hr0, hr1, trivial⟩ (M7 hE)).mono fun e W' ⟨R, v, Ho, Z', he, ⟨hR, _⟩, hp, hs⟩ => ?_
  subst hR
  obtain rfl : v = .bool true := hp
  exact ⟨_, he, LU NR (by kernel_rfl) rfl rfl KZ hW' rfl rfl rfl (M8 hs)⟩
theorem witness_row (os : Os) {H : Type} (enc : TypeId × Value → H) :
    (OpenSpec.ofChange Rows.entityNobodySpec).preRow enc Tryz.prog Tryz.f7 Rows.entityNobodyRow.domain false Rows.entityNobodyRow.laid ((ER os).forCall (fun _ _ => 0) ⟨#[], #[.agg #[(.string ⟨#[]⟩), (.string ⟨#[]⟩), (.string ⟨#[]⟩), (.slice none 0 0)], .int .i64 0], []⟩).memory #[.agg #[(.string ⟨#[]⟩), (.string ⟨#[]⟩), (.string ⟨#[]⟩), (.slice none 0 0)], .int .i64 0] := by
  have hw : (DataW.whole enc Tryz.prog ((ER os).forCall (fun _ _ => 0) ⟨#[], #[.agg #[(.string ⟨#[]⟩), (.string ⟨#[]⟩), (.string ⟨#[]⟩), (.slice none 0 0)], .int .i64 0], []⟩).memory Tryz.f7.params.toList Rows.entityNobodySpec.vars false #[.agg #[(.string ⟨#[]⟩), (.string ⟨#[]⟩), (.string ⟨#[]⟩), (.slice none 0 0)], .int .i64 0].toList 8).map (fun x => (x.1, x.2.1)) =
      some ([.agg [.lit (.string []), .lit (.string []), .lit (.string []), .nil], .lit (.int .i64 0)], []) := by kernel_rfl
  obtain ⟨⟨x1, x2, x3⟩, hx, hx1⟩ := Option.map_eq_some_iff.1 hw
  simp only [Prod.mk.injEq] at hx1
  obtain ⟨rfl, rfl⟩ := hx1
  exact OpenSpec.preRow_of_cond 8 hx (by kernel_rfl) (fun k hk => by cases hk) (by kernel_rfl) (Nd os _)
theorem lifted (os : Os) (started : os.Started) (H : Type) (enc : TypeId × Value → H) (F : Stop.Interp) :
    ReturnsInHanded {} Tryz.checked os 7 .any ((OpenSpec.ofChange Rows.entityNobodySpec).preRow enc Tryz.prog Tryz.f7 Rows.entityNobodyRow.domain false Rows.entityNobodyRow.laid) (((OpenSpec.ofChange Rows.entityNobodySpec).at F).post enc Tryz.prog Tryz.f7 false true false false) := by
  refine returnsInHanded_of_row (C := Tryz.checked) (s := (OpenSpec.ofChange Rows.entityNobodySpec)) own started (by kernel_rfl) Tryz.func7
    (witness_row_atRef (enc := enc) (C := Tryz.checked) false (ER os) #[.agg #[(.string ⟨#[]⟩), (.string ⟨#[]⟩), (.string ⟨#[]⟩), (.slice none 0 0)], .int .i64 0] rfl (by kernel_rfl) (by kernel_rfl) (by kernel_rfl) (witness_row os enc)) ?_
  intro W base args ds gs before hval hW _ _ hz hL _ _
  exact contract H enc W base args ds gs before hval hW hz hL
theorem said : Rows.EntityNobodySaid :=
  OpenClaim.holds_of_cond 7 Tryz.f7 rfl rfl rfl rfl rfl rfl rfl ⟨rfl, rfl, rfl, rfl, rfl⟩ rfl rfl rfl rfl rfl (by kernel_rfl) Tryz.func7 (by kernel_rfl)
    (of_decide_eq_true (by kernel_rfl)) (by unfold Func.isWrapper; first | (rw [if_pos (by decide +kernel)]; kernel_rfl) | (rw [if_neg (by decide +kernel)]; exact ⟨rfl, rfl⟩))
    (fun os started H enc _ F => by rw [OpenClaim.pre_eq_preRow]; exact lifted os started H enc F)
theorem plain (f : FuncId) (fn : Func) (hf : Tryz.pinned.checked.prog.funcNamed "faas/faaslaw48.EntityNobody" = some f) (hfn : Tryz.pinned.checked.prog.funcs[f]? = some fn) :
    false = Tryz.pinned.checked.prog.looks [] ∧ ∀ (j : Nat) t, fn.params[j]? = some t → Tryz.pinned.checked.prog.wantsStandIn t = false := by
  obtain rfl : f = 7 := Option.some.inj ((show Tryz.prog.funcNamed "faas/faaslaw48.EntityNobody" = some 7 by kernel_rfl).symm.trans hf) |>.symm
  obtain rfl : fn = Tryz.f7 := (Option.some.inj (Tryz.func7.symm.trans hfn)).symm
  refine ⟨by kernel_rfl, fun j t ht => ?_⟩
  rw [Tryz.params7] at ht
  have hm := Array.mem_of_getElem? ht
  have hall : ∀ t ∈ (#[25, 3] : Array TypeId), Tryz.prog.wantsStandIn t = false := by
    intro t ht
    have := List.all_eq_true.1 (show ([25, 3] : List TypeId).all (fun t => !Tryz.prog.wantsStandIn t) = true by kernel_rfl) t (by simpa using ht)
    simpa using this
  exact hall t hm
theorem card : Rows.EntityNobodyCardSaid :=
  Claim7.holds_tied_plain_at .later [] _ _ _ _ said (fun _ h => by cases h) (by kernel_rfl) (fun _ h => by cases h) entityNobody_row_tie rfl ⟨rfl, rfl⟩ (by kernel_rfl) rfl plain (by kernel_rfl)
end Go.Proofs.YtfbmdidnlhifjaaGreatDoor.lawEntityNobody
namespace Go.Proofs.YtfbmdidnlhifjaaGreatDoor
theorem entityNobody_card : Rows.EntityNobodyCardSaid := lawEntityNobody.card
end Go.Proofs.YtfbmdidnlhifjaaGreatDoor
#print axioms Go.Proofs.YtfbmdidnlhifjaaGreatDoor.entityNobody_card
