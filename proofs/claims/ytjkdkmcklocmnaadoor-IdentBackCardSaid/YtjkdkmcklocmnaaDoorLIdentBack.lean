/-
  The law IdentBack holds of the given program for every input.
-/
import Derived.Test.YtjkdkmcklocmnaaDoorRow
import Derived.Test.YtjkdkmcklocmnaaDoorIdE
namespace Go.Proofs.YtjkdkmcklocmnaaDoor.lawIdentBack
open Go Go.ChangeShapes Go.WideShapes Go.ChangeAt Go.RowKit
open Go.ChangeMaps (open_string)
set_option linter.unusedVariables false
set_option linter.unusedSimpArgs false
set_option maxRecDepth 100000
theorem contract (H : Type) (enc : TypeId × Value → H) (W : World) (base : Nat) (args : Array Value) (ds gs : List (DataW H)) (before : List MemPlace)
    (hval : ∀ (j : Nat) t v, Tryd.f5.params[j]? = some t → args[j]? = some v → Value.okWide Tryd.prog W .any base t v)
    (hW : DataW.Whole enc Tryd.prog Tryd.f5.params.toList Rows.identBackSpec.vars false W args.toList ds gs before)
    (hz : (DataW.weightsEach Tryd.prog (Tryd.f5.params.toList ++ []) (ds ++ gs)).all (· ≤ reachBytes) = true) (hL : laidMet Tryd.prog laidList W) :
    Calls Tryd.prog 5 args W fun e W' => ∃ v, e = .returned v ∧ Rows.identBackSpec.post enc Tryd.prog Tryd.f5 false true false false W args v W' := by
  have hE := env_of hL
  have hW' := hW
  obtain ⟨p, q, hA0, hV, hbf, hfz, hnd⟩ := hW
  have hA : DataW.TrodAll enc Tryd.prog W 0 (fun _ => true) true Tryd.f5.params.toList args.toList ds p := hA0
  rw [Tryd.params5] at hA hval hz
  obtain ⟨rfl, rfl⟩ := trodVars_none hV
  obtain ⟨v0, vs0, d0, ds0, p0, q0, hargs, hd0, hq0, h0, r0⟩ := trodAll_cons hA
  obtain ⟨v1, vs1, d1, ds1, p1, q1, hv1, hd1, hq1, h1, r1⟩ := trodAll_cons r0
  obtain ⟨v2, vs2, d2, ds2, p2, q2, hv2, hd2, hq2, h2, r2⟩ := trodAll_cons r1
  obtain ⟨v3, vs3, d3, ds3, p3, q3, hv3, hd3, hq3, h3, r3⟩ := trodAll_cons r2
  obtain ⟨hvn, hdn, hqn⟩ := trodAll_nil r3
  obtain rfl : args = #[v0, v1, v2, v3] := by cases args; simp_all
  obtain rfl : ds = [d0, d1, d2, d3] := by simp_all
  obtain ⟨s0, e0, f0, _, ws0⟩ := open_string Tryd.underlying9 (hval 0 9 v0 rfl rfl) h0
  obtain ⟨l0, hl0⟩ : ∃ l, l = s0.data.toList := ⟨_, rfl⟩
  have b0 : s0 = B l0 := by rw [hl0]; exact B_of s0
  rw [← hl0] at f0
  rw [b0] at e0
  obtain ⟨s1, e1, f1, _, ws1⟩ := open_string Tryd.underlying9 (hval 1 9 v1 rfl rfl) h1
  obtain ⟨l1, hl1⟩ : ∃ l, l = s1.data.toList := ⟨_, rfl⟩
  have b1 : s1 = B l1 := by rw [hl1]; exact B_of s1
  rw [← hl1] at f1
  rw [b1] at e1
  obtain ⟨s2, e2, f2, _, ws2⟩ := open_string Tryd.underlying9 (hval 2 9 v2 rfl rfl) h2
  obtain ⟨l2, hl2⟩ : ∃ l, l = s2.data.toList := ⟨_, rfl⟩
  have b2 : s2 = B l2 := by rw [hl2]; exact B_of s2
  rw [← hl2] at f2
  rw [b2] at e2
  obtain ⟨m3, e3, f3, _, wf3⟩ := open_int Tryd.underlying3 (hval 3 3 v3 rfl rfl) h3
  subst e0 f0
  subst e1 f1
  subst e2 f2
  subst e3 f3
  have hR : reachBytes = 140737488351232 := rfl
  have hzz : ∀ x ∈ DataW.weightsEach Tryd.prog [9, 9, 9, 3] [(.lit (.string l0)), (.lit (.string l1)), (.lit (.string l2)), (.lit (.int .i64 m3))], x ≤ reachBytes := fun x hx => of_decide_eq_true (List.all_eq_true.1 hz x hx)
  have z0 := hzz l0.length (by simp [DataW.weightsEach, DataW.weights])
  have z1 := hzz l1.length (by simp [DataW.weightsEach, DataW.weights])
  have z2 := hzz l2.length (by simp [DataW.weightsEach, DataW.weights])
  refine (identBack_c l0 l1 l2 m3 (by omega) (by omega) (by omega) W hE).mono fun e W' ⟨he, hg⟩ => ?_
  subst he
  exact ⟨_, rfl, post_true laidOut (by kernel_rfl) rfl rfl bool_under hW' rfl rfl rfl (St.below hg)⟩
theorem witness_row (os : Os) {H : Type} (enc : TypeId × Value → H) :
    (OpenSpec.ofChange Rows.identBackSpec).preRow enc Tryd.prog Tryd.f5 Rows.identBackRow.domain false Rows.identBackRow.laid ((laidWorld os).forCall (fun _ _ => 0) ⟨#[], #[.string ⟨#[]⟩, .string ⟨#[]⟩, .string ⟨#[]⟩, .int .i64 0], []⟩).memory #[.string ⟨#[]⟩, .string ⟨#[]⟩, .string ⟨#[]⟩, .int .i64 0] := by
  have hw : (DataW.whole enc Tryd.prog ((laidWorld os).forCall (fun _ _ => 0) ⟨#[], #[.string ⟨#[]⟩, .string ⟨#[]⟩, .string ⟨#[]⟩, .int .i64 0], []⟩).memory Tryd.f5.params.toList Rows.identBackSpec.vars false #[.string ⟨#[]⟩, .string ⟨#[]⟩, .string ⟨#[]⟩, .int .i64 0].toList 8).map (fun x => (x.1, x.2.1)) =
      some ([.lit (.string []), .lit (.string []), .lit (.string []), .lit (.int .i64 0)], []) := by kernel_rfl
  obtain ⟨⟨x1, x2, x3⟩, hx, hx1⟩ := Option.map_eq_some_iff.1 hw
  simp only [Prod.mk.injEq] at hx1
  obtain ⟨rfl, rfl⟩ := hx1
  exact OpenSpec.preRow_of_cond 8 hx (by kernel_rfl) (fun k hk => by cases hk) (by kernel_rfl) (laid_met os _)
theorem lifted (os : Os) (started : os.Started) (H : Type) (enc : TypeId × Value → H) (F : Stop.Interp) :
    ReturnsInHanded {} Tryd.checked os 5 .any ((OpenSpec.ofChange Rows.identBackSpec).preRow enc Tryd.prog Tryd.f5 Rows.identBackRow.domain false Rows.identBackRow.laid) (((OpenSpec.ofChange Rows.identBackSpec).at F).post enc Tryd.prog Tryd.f5 false true false false) := by
  refine returnsInHanded_of_row (C := Tryd.checked) (s := (OpenSpec.ofChange Rows.identBackSpec)) own started (by kernel_rfl) Tryd.func5
    (witness_row_atRef (enc := enc) (C := Tryd.checked) false (laidWorld os) #[.string ⟨#[]⟩, .string ⟨#[]⟩, .string ⟨#[]⟩, .int .i64 0] rfl (by kernel_rfl) (by kernel_rfl) (by kernel_rfl) (witness_row os enc)) ?_
  intro W base args ds gs before hval hW _ _ hz hL _ _
  exact contract H enc W base args ds gs before hval hW hz hL
theorem said : Rows.IdentBackSaid :=
  OpenClaim.holds_of_cond 5 Tryd.f5 rfl rfl rfl rfl rfl rfl rfl ⟨rfl, rfl, rfl, rfl, rfl⟩ rfl rfl rfl rfl rfl (by kernel_rfl) Tryd.func5 (by kernel_rfl)
    (of_decide_eq_true (by kernel_rfl)) (by unfold Func.isWrapper; first | (rw [if_pos (by decide +kernel)]; kernel_rfl) | (rw [if_neg (by decide +kernel)]; exact ⟨rfl, rfl⟩))
    (fun os started H enc _ F => by rw [OpenClaim.pre_eq_preRow]; exact lifted os started H enc F)
theorem plain (f : FuncId) (fn : Func) (hf : Tryd.pinned.checked.prog.funcNamed "faas/faaslaw05.IdentBack" = some f) (hfn : Tryd.pinned.checked.prog.funcs[f]? = some fn) :
    true = Tryd.pinned.checked.prog.looks [] ∧ ∀ (j : Nat) t, fn.params[j]? = some t → Tryd.pinned.checked.prog.wantsStandIn t = false := by
  obtain rfl : f = 5 := Option.some.inj ((show Tryd.prog.funcNamed "faas/faaslaw05.IdentBack" = some 5 by kernel_rfl).symm.trans hf) |>.symm
  obtain rfl : fn = Tryd.f5 := (Option.some.inj (Tryd.func5.symm.trans hfn)).symm
  refine ⟨by kernel_rfl, fun j t ht => ?_⟩
  rw [Tryd.params5] at ht
  have hm := Array.mem_of_getElem? ht
  have hall : ∀ t ∈ (#[9, 9, 9, 3] : Array TypeId), Tryd.prog.wantsStandIn t = false := by
    intro t ht
    have := List.all_eq_true.1 (show ([9, 9, 9, 3] : List TypeId).all (fun t => !Tryd.prog.wantsStandIn t) = true by kernel_rfl) t (by simpa using ht)
    simpa using this
  exact hall t hm
theorem card : Rows.IdentBackCardSaid :=
  Claim7.holds_tied_plain_at .later [] _ _ _ _ said (fun _ h => by cases h) (by kernel_rfl) (fun _ h => by cases h) identBack_row_tie rfl ⟨rfl, rfl⟩ (by kernel_rfl) rfl plain (by kernel_rfl)
end Go.Proofs.YtjkdkmcklocmnaaDoor.lawIdentBack
namespace Go.Proofs.YtjkdkmcklocmnaaDoor
theorem identBack_card : Rows.IdentBackCardSaid := lawIdentBack.card
end Go.Proofs.YtjkdkmcklocmnaaDoor
#print axioms Go.Proofs.YtjkdkmcklocmnaaDoor.identBack_card
