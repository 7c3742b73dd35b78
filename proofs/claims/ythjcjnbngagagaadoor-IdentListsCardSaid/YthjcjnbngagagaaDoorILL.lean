/-
  The Kc IdentLists holds of the given program for every input.
-/
import Derived.Test.YthjcjnbngagagaaDoorIL2
namespace Go.Proofs.YthjcjnbngagagaaDoor.lawIdentLists
open Go Go.Proofs.YthjcjnbngagagaaDoor.Q Go.ChangeShapes Go.WideShapes Go.ChangeAt Go.RowKit
open Go.ChangeMaps (open_string)
set_option linter.unusedVariables false
set_option linter.unusedSimpArgs false
set_option maxRecDepth 100000
theorem opn9 : EZ Tryd.prog 9 eS JD := EZ.str Tryd.underlying9 (fun _ => rfl)
theorem opn22 : EZ Tryd.prog 22 (fun ys : (List Ay) => [Bk 1 (ys.map eS)]) (fun ys : (List Ay) => ys.all JD && decide (ys.length ≤ 9223372036854775807)) := EZ.slice Tryd.underlying22 (by kernel_rfl) (by decide) opn9 Cs (fun _ => rfl)
theorem contract (H : Type) (enc : TypeId × Value → H) (W : World) (base : Nat) (args : Array Value) (ds gs : List (DataW H)) (before : List MemPlace)
    (hval : ∀ (j : Nat) t v, Tryd.f3.params[j]? = some t → args[j]? = some v → Value.okWide Tryd.prog W .any base t v)
    (hW : DataW.Whole enc Tryd.prog Tryd.f3.params.toList Rows.identListsSpec.vars false W args.toList ds gs before)
    (hz : (DataW.weightsEach Tryd.prog (Tryd.f3.params.toList ++ []) (ds ++ gs)).all (· ≤ reachBytes) = true) (hL : laidMet Tryd.prog DG W) :
    Calls Tryd.prog 3 args W fun e W' => ∃ v, e = .returned v ∧ Rows.identListsSpec.post enc Tryd.prog Tryd.f3 false true false false W args v W' := by
  have hE := Jx hL
  have hW' := hW
  obtain ⟨p, q, hA0, hV, hbf, hfz, hnd⟩ := hW
  have hA : DataW.TrodAll enc Tryd.prog W 0 (fun _ => true) true Tryd.f3.params.toList args.toList ds p := hA0
  rw [Tryd.params3] at hA hval hz
  obtain ⟨rfl, rfl⟩ := trodVars_none hV
  obtain ⟨v0, vs0, d0, ds0, p0, q0, hargs, hd0, hq0, h0, r0⟩ := trodAll_cons hA
  obtain ⟨v1, vs1, d1, ds1, p1, q1, hv1, hd1, hq1, h1, r1⟩ := trodAll_cons r0
  obtain ⟨hvn, hdn, hqn⟩ := trodAll_nil r1
  obtain rfl : args = #[v0, v1] := by cases args; simp_all
  obtain rfl : ds = [d0, d1] := by simp_all
  obtain ⟨a0, l0, c0, e0⟩ := okWide_slice Tryd.underlying22 (hval 0 22 v0 rfl rfl)
  obtain ⟨y0, oy0, hr0⟩ := EZ.val (opn22) (r := fun y => Bk 1 (List.map eS y)) (fun _ => rfl) (by rw [e0]; rfl) h0
  obtain ⟨a1, e1⟩ := okWide_string Tryd.underlying9 (hval 1 9 v1 rfl rfl)
  obtain ⟨y1, oy1, hr1⟩ := EZ.val (opn9) (r := fun y => rS y) (fun _ => rfl) (by rw [e1]; rfl) h1
  obtain ⟨F, hF⟩ := Kc y0 y1 oy0 oy1
  refine (HF F y0 y1 true hF W (ZW W) [v0, v1] ⟨hr0, hr1, trivial⟩ (Hx hE)).mono fun e W' ⟨R, v, Ho, Z', he, ⟨hR, _⟩, hp, hs⟩ => ?_
  subst hR
  obtain rfl : v = .bool true := hp
  exact ⟨_, he, GR I1 (by kernel_rfl) rfl rfl Gr hW' rfl rfl rfl (Hy hs)⟩
theorem witness_row (os : Os) {H : Type} (enc : TypeId × Value → H) :
    (OpenSpec.ofChange Rows.identListsSpec).preRow enc Tryd.prog Tryd.f3 Rows.identListsRow.domain false Rows.identListsRow.laid ((C7 os).forCall (fun _ _ => 0) ⟨#[], #[.slice none 0 0, .string ⟨#[]⟩], []⟩).memory #[.slice none 0 0, .string ⟨#[]⟩] := by
  have hw : (DataW.whole enc Tryd.prog ((C7 os).forCall (fun _ _ => 0) ⟨#[], #[.slice none 0 0, .string ⟨#[]⟩], []⟩).memory Tryd.f3.params.toList Rows.identListsSpec.vars false #[.slice none 0 0, .string ⟨#[]⟩].toList 8).map (fun x => (x.1, x.2.1)) =
      some ([.nil, .lit (.string [])], []) := by kernel_rfl
  obtain ⟨⟨x1, x2, x3⟩, hx, hx1⟩ := Option.map_eq_some_iff.1 hw
  simp only [Prod.mk.injEq] at hx1
  obtain ⟨rfl, rfl⟩ := hx1
  exact OpenSpec.preRow_of_cond 8 hx (by kernel_rfl) (fun k hk => by cases hk) (by kernel_rfl) (HE os _)
theorem lifted (os : Os) (started : os.Started) (H : Type) (enc : TypeId × Value → H) (F : Stop.Interp) :
    ReturnsInHanded {} Tryd.checked os 3 .any ((OpenSpec.ofChange Rows.identListsSpec).preRow enc Tryd.prog Tryd.f3 Rows.identListsRow.domain false Rows.identListsRow.laid) (((OpenSpec.ofChange Rows.identListsSpec).at F).post enc Tryd.prog Tryd.f3 false true false false) := by
  refine returnsInHanded_of_row (C := Tryd.checked) (s := (OpenSpec.ofChange Rows.identListsSpec)) own started (by kernel_rfl) Tryd.func3
    (witness_row_atRef (enc := enc) (C := Tryd.checked) false (C7 os) #[.slice none 0 0, .string ⟨#[]⟩] rfl (by kernel_rfl) (by kernel_rfl) (by kernel_rfl) (witness_row os enc)) ?_
  intro W base args ds gs before hval hW _ _ hz hL _ _
  exact contract H enc W base args ds gs before hval hW hz hL
theorem said : Rows.IdentListsSaid :=
  OpenClaim.holds_of_cond 3 Tryd.f3 rfl rfl rfl rfl rfl rfl rfl ⟨rfl, rfl, rfl, rfl, rfl⟩ rfl rfl rfl rfl rfl (by kernel_rfl) Tryd.func3 (by kernel_rfl)
    (of_decide_eq_true (by kernel_rfl)) (by unfold Func.isWrapper; first | (rw [if_pos (by decide +kernel)]; kernel_rfl) | (rw [if_neg (by decide +kernel)]; exact ⟨rfl, rfl⟩))
    (fun os started H enc _ F => by rw [OpenClaim.pre_eq_preRow]; exact lifted os started H enc F)
theorem plain (f : FuncId) (fn : Func) (hf : Tryd.pinned.checked.prog.funcNamed "faas/faaslaw05.IdentLists" = some f) (hfn : Tryd.pinned.checked.prog.funcs[f]? = some fn) :
    true = Tryd.pinned.checked.prog.looks [] ∧ ∀ (j : Nat) t, fn.params[j]? = some t → Tryd.pinned.checked.prog.wantsStandIn t = false := by
  obtain rfl : f = 3 := Option.some.inj ((show Tryd.prog.funcNamed "faas/faaslaw05.IdentLists" = some 3 by kernel_rfl).symm.trans hf) |>.symm
  obtain rfl : fn = Tryd.f3 := (Option.some.inj (Tryd.func3.symm.trans hfn)).symm
  refine ⟨by kernel_rfl, fun j t ht => ?_⟩
  rw [Tryd.params3] at ht
  have hm := Array.mem_of_getElem? ht
  have hall : ∀ t ∈ (#[22, 9] : Array TypeId), Tryd.prog.wantsStandIn t = false := by
    intro t ht
    have := List.all_eq_true.1 (show ([22, 9] : List TypeId).all (fun t => !Tryd.prog.wantsStandIn t) = true by kernel_rfl) t (by simpa using ht)
    simpa using this
  exact hall t hm
theorem card : Rows.IdentListsCardSaid :=
  Claim7.holds_tied_plain_at .later [] _ _ _ _ said (fun _ h => by cases h) (by kernel_rfl) (fun _ h => by cases h) identLists_row_tie rfl ⟨rfl, rfl⟩ (by kernel_rfl) rfl plain (by kernel_rfl)
end Go.Proofs.YthjcjnbngagagaaDoor.lawIdentLists
namespace Go.Proofs.YthjcjnbngagagaaDoor
theorem identLists_card : Rows.IdentListsCardSaid := lawIdentLists.card
end Go.Proofs.YthjcjnbngagagaaDoor
#print axioms Go.Proofs.YthjcjnbngagagaaDoor.identLists_card
