/-
  The law IdentChildren holds of the given program for every input.
-/
import Derived.Test.YtjkdkmcklocmnaaGreatDoorRow
import Derived.Test.YtjkdkmcklocmnaaGreatDoorIdE
namespace Go.Proofs.YtjkdkmcklocmnaaGreatDoor.lawIdentChildren
open Go Go.ChangeShapes Go.WideShapes Go.ChangeAt Go.RowKit
open Go.ChangeMaps (open_string)
set_option linter.unusedVariables false
set_option linter.unusedSimpArgs false
set_option maxRecDepth 100000
theorem contract (H : Type) (enc : TypeId × Value → H) (W : World) (base : Nat) (args : Array Value) (ds gs : List (DataW H)) (before : List MemPlace)
    (hval : ∀ (j : Nat) t v, Tryz.f5.params[j]? = some t → args[j]? = some v → Value.okWide Tryz.prog W .any base t v)
    (hW : DataW.Whole enc Tryz.prog Tryz.f5.params.toList Rows.identChildrenSpec.vars false W args.toList ds gs before)
    (hz : (DataW.weightsEach Tryz.prog (Tryz.f5.params.toList ++ []) (ds ++ gs)).all (· ≤ reachBytes) = true) (hL : laidMet Tryz.prog laidList W) :
    Calls Tryz.prog 5 args W fun e W' => ∃ v, e = .returned v ∧ Rows.identChildrenSpec.post enc Tryz.prog Tryz.f5 false true false false W args v W' := by
  have hE := env_of hL
  have hW' := hW
  obtain ⟨p, q, hA0, hV, hbf, hfz, hnd⟩ := hW
  have hA : DataW.TrodAll enc Tryz.prog W 0 (fun _ => true) true Tryz.f5.params.toList args.toList ds p := hA0
  rw [Tryz.params5] at hA hval hz
  obtain ⟨rfl, rfl⟩ := trodVars_none hV
  obtain ⟨v0, vs0, d0, ds0, p0, q0, hargs, hd0, hq0, h0, r0⟩ := trodAll_cons hA
  obtain ⟨v1, vs1, d1, ds1, p1, q1, hv1, hd1, hq1, h1, r1⟩ := trodAll_cons r0
  obtain ⟨v2, vs2, d2, ds2, p2, q2, hv2, hd2, hq2, h2, r2⟩ := trodAll_cons r1
  obtain ⟨hvn, hdn, hqn⟩ := trodAll_nil r2
  obtain rfl : args = #[v0, v1, v2] := by cases args; simp_all
  obtain rfl : ds = [d0, d1, d2] := by simp_all
  obtain ⟨s0, e0, f0, _, ws0⟩ := open_string Tryz.underlying9 (hval 0 9 v0 rfl rfl) h0
  obtain ⟨l0, hl0⟩ : ∃ l, l = s0.data.toList := ⟨_, rfl⟩
  have b0 : s0 = B l0 := by rw [hl0]; exact B_of s0
  rw [← hl0] at f0
  rw [b0] at e0
  obtain ⟨m1, e1, f1, _, wf1⟩ := open_int Tryz.underlying3 (hval 1 3 v1 rfl rfl) h1
  obtain ⟨s2, e2, f2, _, ws2⟩ := open_string Tryz.underlying9 (hval 2 9 v2 rfl rfl) h2
  obtain ⟨l2, hl2⟩ : ∃ l, l = s2.data.toList := ⟨_, rfl⟩
  have b2 : s2 = B l2 := by rw [hl2]; exact B_of s2
  rw [← hl2] at f2
  rw [b2] at e2
  subst e0 f0
  subst e1 f1
  subst e2 f2
  have hR : reachBytes = 140737488351232 := rfl
  have hzz : ∀ x ∈ DataW.weightsEach Tryz.prog [9, 3, 9] [(.lit (.string l0)), (.lit (.int .i64 m1)), (.lit (.string l2))], x ≤ reachBytes := fun x hx => of_decide_eq_true (List.all_eq_true.1 hz x hx)
  have z0 := hzz l0.length (by simp [DataW.weightsEach, DataW.weights])
  have z2 := hzz l2.length (by simp [DataW.weightsEach, DataW.weights])
  refine (identChildren_c l0 m1 l2 (by omega) (by omega) W hE).mono fun e W' ⟨he, hg⟩ => ?_
  subst he
  exact ⟨_, rfl, post_true laidOut (by kernel_rfl) rfl rfl bool_under hW' rfl rfl rfl (St.below hg)⟩
theorem witness_row (os : Os) {H : Type} (enc : TypeId × Value → H) :
    (OpenSpec.ofChange Rows.identChildrenSpec).preRow enc Tryz.prog Tryz.f5 Rows.identChildrenRow.domain false Rows.identChildrenRow.laid ((laidWorld os).forCall (fun _ _ => 0) ⟨#[], #[.string ⟨#[]⟩, .int .i64 0, .string ⟨#[]⟩], []⟩).memory #[.string ⟨#[]⟩, .int .i64 0, .string ⟨#[]⟩] := by
  have hw : (DataW.whole enc Tryz.prog ((laidWorld os).forCall (fun _ _ => 0) ⟨#[], #[.string ⟨#[]⟩, .int .i64 0, .string ⟨#[]⟩], []⟩).memory Tryz.f5.params.toList Rows.identChildrenSpec.vars false #[.string ⟨#[]⟩, .int .i64 0, .string ⟨#[]⟩].toList 8).map (fun x => (x.1, x.2.1)) =
      some ([.lit (.string []), .lit (.int .i64 0), .lit (.string [])], []) := by kernel_rfl
  obtain ⟨⟨x1, x2, x3⟩, hx, hx1⟩ := Option.map_eq_some_iff.1 hw
  simp only [Prod.mk.injEq] at hx1
  obtain ⟨rfl, rfl⟩ := hx1
  exact OpenSpec.preRow_of_cond 8 hx (by kernel_rfl) (fun k hk => by cases hk) (by kernel_rfl) (laid_met os _)
theorem lifted (os : Os) (started : os.Started) (H : Type) (enc : TypeId × Value → H) (F : Stop.Interp) :
    ReturnsInHanded {} Tryz.checked os 5 .any ((OpenSpec.ofChange Rows.identChildrenSpec).preRow enc Tryz.prog Tryz.f5 Rows.identChildrenRow.domain false Rows.identChildrenRow.laid) (((OpenSpec.ofChange Rows.identChildrenSpec).at F).post enc Tryz.prog Tryz.f5 false true false false) := by
  refine returnsInHanded_of_row (C := Tryz.checked) (s := (OpenSpec.ofChange Rows.identChildrenSpec)) own started (by kernel_rfl) Tryz.func5
    (witness_row_atRef (enc := enc) (C := Tryz.checked) false (laidWorld os) #[.string ⟨#[]⟩, .int .i64 0, .string ⟨#[]⟩] rfl (by kernel_rfl) (by kernel_rfl) (by kernel_rfl) (witness_row os enc)) ?_
  intro W base args ds gs before hval hW _ _ hz hL _ _
  exact contract H enc W base args ds gs before hval hW hz hL
theorem said : Rows.IdentChildrenSaid :=
  OpenClaim.holds_of_cond 5 Tryz.f5 rfl rfl rfl rfl rfl rfl rfl ⟨rfl, rfl, rfl, rfl, rfl⟩ rfl rfl rfl rfl rfl (by kernel_rfl) Tryz.func5 (by kernel_rfl)
    (of_decide_eq_true (by kernel_rfl)) (by unfold Func.isWrapper; first | (rw [if_pos (by decide +kernel)]; kernel_rfl) | (rw [if_neg (by decide +kernel)]; exact ⟨rfl, rfl⟩))
    (fun os started H enc _ F => by rw [OpenClaim.pre_eq_preRow]; exact lifted os started H enc F)
theorem plain (f : FuncId) (fn : Func) (hf : Tryz.pinned.checked.prog.funcNamed "faas/faaslaw05.IdentChildren" = some f) (hfn : Tryz.pinned.checked.prog.funcs[f]? = some fn) :
    true = Tryz.pinned.checked.prog.looks [] ∧ ∀ (j : Nat) t, fn.params[j]? = some t → Tryz.pinned.checked.prog.wantsStandIn t = false := by
  obtain rfl : f = 5 := Option.some.inj ((show Tryz.prog.funcNamed "faas/faaslaw05.IdentChildren" = some 5 by kernel_rfl).symm.trans hf) |>.symm
  obtain rfl : fn = Tryz.f5 := (Option.some.inj (Tryz.func5.symm.trans hfn)).symm
  refine ⟨by kernel_rfl, fun j t ht => ?_⟩
  rw [Tryz.params5] at ht
  have hm := Array.mem_of_getElem? ht
  have hall : ∀ t ∈ (#[9, 3, 9] : Array TypeId), Tryz.prog.wantsStandIn t = false := by
    intro t ht
    have := List.all_eq_true.1 (show ([9, 3, 9] : List TypeId).all (fun t => !Tryz.prog.wantsStandIn t) = true by kernel_rfl) t (by simpa using ht)
    simpa using this
  exact hall t hm
theorem card : Rows.IdentChildrenCardSaid :=
  Claim7.holds_tied_plain_at .later [] _ _ _ _ said (fun _ h => by cases h) (by kernel_rfl) (fun _ h => by cases h) identChildren_row_tie rfl ⟨rfl, rfl⟩ (by kernel_rfl) rfl plain (by kernel_rfl)
end Go.Proofs.YtjkdkmcklocmnaaGreatDoor.lawIdentChildren
namespace Go.Proofs.YtjkdkmcklocmnaaGreatDoor
theorem identChildren_card : Rows.IdentChildrenCardSaid := lawIdentChildren.card
end Go.Proofs.YtjkdkmcklocmnaaGreatDoor
#print axioms Go.Proofs.YtjkdkmcklocmnaaGreatDoor.identChildren_card
