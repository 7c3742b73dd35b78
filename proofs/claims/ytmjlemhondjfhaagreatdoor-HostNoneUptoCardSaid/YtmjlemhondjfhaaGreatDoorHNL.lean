/-
  The UV HostNone holds of the given program for every input of the bulk that the second form names.
-/
import Derived.Test.YtmjlemhondjfhaaGreatDoorHN4
namespace Go.Proofs.YtmjlemhondjfhaaGreatDoor.lawHostNone
open Go Go.Proofs.YtmjlemhondjfhaaGreatDoor.Q Go.ChangeShapes Go.WideShapes Go.ChangeAt Go.RowKit
open Go.ChangeMaps (open_string)
set_option linter.unusedVariables false
set_option linter.unusedSimpArgs false
set_option maxRecDepth 100000
theorem opn9 : DM Tryz.prog 9 eS Sm := DM.str Tryz.underlying9 (fun _ => rfl)
theorem opn68 : DM Tryz.prog 68 R0 (Cf .i64) := DM.int Tryz.underlying68 (fun _ => rfl)
theorem opn3 : DM Tryz.prog 3 R0 (Cf .i64) := DM.int Tryz.underlying3 (fun _ => rfl)
-- struct Ac
theorem opn70 : DM Tryz.prog 70 Ad QO := fun h hB => by
  obtain ⟨xs, k, _, hxe, hlen, hxl, hf⟩ := DataW.trod_struct Tryz.underlying70 h
  rw [hxe] at hB
  have hxl : xs.length = 4 := hxl
  have ct : Tryz.prog.cellsOf 70 = 4 := by kernel_rfl
  rw [ct] at hlen
  have g0 : DataW.trod _ _ _ _ _ _ _ 68 ((List.drop 0 _).take (Tryz.prog.cellsOf 68)) = _ := hf 0 _ rfl
  have c0 : Tryz.prog.cellsOf 68 = 1 := by kernel_rfl
  rw [c0, List.getElem?_eq_getElem (by omega)] at g0
  obtain ⟨y0, o0, r0⟩ := opn68 g0 (Er (by omega) hB)
  have g1 : DataW.trod _ _ _ _ _ _ _ 3 ((List.drop 1 _).take (Tryz.prog.cellsOf 3)) = _ := hf 1 _ rfl
  have c1 : Tryz.prog.cellsOf 3 = 1 := by kernel_rfl
  rw [c1, List.getElem?_eq_getElem (by omega)] at g1
  obtain ⟨y1, o1, r1⟩ := opn3 g1 (Er (by omega) hB)
  have g2 : DataW.trod _ _ _ _ _ _ _ 9 ((List.drop 2 _).take (Tryz.prog.cellsOf 9)) = _ := hf 2 _ rfl
  have c2 : Tryz.prog.cellsOf 9 = 1 := by kernel_rfl
  rw [c2, List.getElem?_eq_getElem (by omega)] at g2
  obtain ⟨y2, o2, r2⟩ := opn9 g2 (Er (by omega) hB)
  have g3 : DataW.trod _ _ _ _ _ _ _ 3 ((List.drop 3 _).take (Tryz.prog.cellsOf 3)) = _ := hf 3 _ rfl
  have c3 : Tryz.prog.cellsOf 3 = 1 := by kernel_rfl
  rw [c3, List.getElem?_eq_getElem (by omega)] at g3
  obtain ⟨y3, o3, r3⟩ := opn3 g3 (Er (by omega) hB)
  refine ⟨⟨y0, y1, y2, y3⟩, by simp only [QO, o0, o1, o2, o3, Bool.and_self], ?_⟩
  exact (Gc r0 rfl (Gc r1 rfl (Gc r2 rfl (Gc r3 rfl (OR hlen)))))
theorem opn50 : DM Tryz.prog 50 (fun ys : (List Ac) => [AC 4 (ys.map Ad)]) (fun ys : (List Ac) => ys.all QO && decide (ys.length ≤ 1048576)) := DM.slice Tryz.underlying50 (by kernel_rfl) (by decide) opn70 Cm (fun _ => rfl)
theorem opn27 : DM Tryz.prog 27 (fun ys : (List (List Ac)) => [AC 1 (ys.map AB)]) (fun ys : (List (List Ac)) => ys.all (fun ys : (List Ac) => ys.all QO && decide (ys.length ≤ 1048576)) && decide (ys.length ≤ 1048576)) := DM.slice Tryz.underlying27 (by kernel_rfl) (by decide) opn50 Cb (fun _ => rfl)
-- struct AV
theorem opn29 : DM Tryz.prog 29 AM Tu := fun h hB => by
  obtain ⟨xs, k, _, hxe, hlen, hxl, hf⟩ := DataW.trod_struct Tryz.underlying29 h
  rw [hxe] at hB
  have hxl : xs.length = 2 := hxl
  have ct : Tryz.prog.cellsOf 29 = 2 := by kernel_rfl
  rw [ct] at hlen
  have g0 : DataW.trod _ _ _ _ _ _ _ 9 ((List.drop 0 _).take (Tryz.prog.cellsOf 9)) = _ := hf 0 _ rfl
  have c0 : Tryz.prog.cellsOf 9 = 1 := by kernel_rfl
  rw [c0, List.getElem?_eq_getElem (by omega)] at g0
  obtain ⟨y0, o0, r0⟩ := opn9 g0 (Er (by omega) hB)
  have g1 : DataW.trod _ _ _ _ _ _ _ 27 ((List.drop 1 _).take (Tryz.prog.cellsOf 27)) = _ := hf 1 _ rfl
  have c1 : Tryz.prog.cellsOf 27 = 1 := by kernel_rfl
  rw [c1, List.getElem?_eq_getElem (by omega)] at g1
  obtain ⟨y1, o1, r1⟩ := opn27 g1 (Er (by omega) hB)
  refine ⟨⟨y0, y1⟩, by simp only [Tu, o0, o1, Bool.and_self], ?_⟩
  exact (Gc r0 rfl (Gc r1 rfl (OR hlen)))
theorem contract (H : Type) (enc : TypeId × Value → H) (W : World) (base : Nat) (args : Array Value) (ds gs : List (DataW H)) (before : List MemPlace)
    (hval : ∀ (j : Nat) t v, Tryz.f7.params[j]? = some t → args[j]? = some v → Value.okWide Tryz.prog W .any base t v)
    (hW : DataW.Whole enc Tryz.prog Tryz.f7.params.toList Rows.hostNoneSpec.vars false W args.toList ds gs before)
    (hk : ∀ k, ((Rows.OpenSpec.upto Rows.hostNoneSpec)).cond = some k → k H (ds ++ gs) = true)
    (hz : (DataW.weightsEach Tryz.prog (Tryz.f7.params.toList ++ []) (ds ++ gs)).all (· ≤ reachBytes) = true) (hL : laidMet Tryz.prog KM W) :
    Calls Tryz.prog 7 args W fun e W' => ∃ v, e = .returned v ∧ Rows.hostNoneSpec.post enc Tryz.prog Tryz.f7 false true false false W args v W' := by
  have hE := TG hL
  have hW' := hW
  obtain ⟨p, q, hA0, hV, hbf, hfz, hnd⟩ := hW
  have hA : DataW.TrodAll enc Tryz.prog W 0 (fun _ => true) true Tryz.f7.params.toList args.toList ds p := hA0
  rw [Tryz.params7] at hA hval hz
  obtain ⟨rfl, rfl⟩ := trodVars_none hV
  obtain ⟨v0, vs0, d0, ds0, p0, q0, hargs, hd0, hq0, h0, r0⟩ := trodAll_cons hA
  obtain ⟨hvn, hdn, hqn⟩ := trodAll_nil r0
  obtain rfl : args = #[v0] := by cases args; simp_all
  obtain rfl : ds = [d0] := by simp_all
  have hB : Rows.uptoBulkAll [d0] ≤ 1048576 := of_decide_eq_true (hk _ rfl)
  have hB0 : Rows.uptoBulk d0 ≤ 1048576 := Nat.le_trans (IW (by simp)) hB
  obtain ⟨a0, e0, _⟩ := okWide_struct Tryz.underlying29 (hval 0 29 v0 rfl rfl)
  obtain ⟨y0, oy0, hr0⟩ := DM.valAgg (opn29) (by rw [e0] at h0; exact h0) hB0
  rw [← e0] at hr0
  obtain ⟨F, hF⟩ := UV y0 oy0
  refine (Re F y0 true hF W (ZW W) [v0] ⟨hr0, trivial⟩ (Q6 hE)).mono fun e W' ⟨R, v, Ho, Z', he, ⟨hR, _⟩, hp, hs⟩ => ?_
  subst hR
  obtain rfl : v = .bool true := hp
  exact ⟨_, he, PL S2 (by kernel_rfl) rfl rfl O8 hW' rfl rfl rfl (Q7 hs)⟩
theorem witness_row (os : Os) {H : Type} (enc : TypeId × Value → H) :
    (Rows.OpenSpec.upto Rows.hostNoneSpec).preRow enc Tryz.prog Tryz.f7 Rows.hostNoneUptoRow.domain false Rows.hostNoneUptoRow.laid ((Hp os).forCall (fun _ _ => 0) ⟨#[], #[.agg #[(.string ⟨#[]⟩), (.slice none 0 0)]], []⟩).memory #[.agg #[(.string ⟨#[]⟩), (.slice none 0 0)]] := by
  have hw : (DataW.whole enc Tryz.prog ((Hp os).forCall (fun _ _ => 0) ⟨#[], #[.agg #[(.string ⟨#[]⟩), (.slice none 0 0)]], []⟩).memory Tryz.f7.params.toList Rows.hostNoneSpec.vars false #[.agg #[(.string ⟨#[]⟩), (.slice none 0 0)]].toList 8).map (fun x => (x.1, x.2.1)) =
      some ([.agg [.lit (.string []), .nil]], []) := by kernel_rfl
  obtain ⟨⟨x1, x2, x3⟩, hx, hx1⟩ := Option.map_eq_some_iff.1 hw
  simp only [Prod.mk.injEq] at hx1
  obtain ⟨rfl, rfl⟩ := hx1
  exact OpenSpec.preRow_of_cond 8 hx (by kernel_rfl) (fun k hk => by cases hk; kernel_rfl) (by kernel_rfl) (Rd os _)
theorem lifted (os : Os) (started : os.Started) (H : Type) (enc : TypeId × Value → H) (F : Stop.Interp) :
    ReturnsInHanded {} Tryz.checked os 7 .any ((Rows.OpenSpec.upto Rows.hostNoneSpec).preRow enc Tryz.prog Tryz.f7 Rows.hostNoneUptoRow.domain false Rows.hostNoneUptoRow.laid) (((Rows.OpenSpec.upto Rows.hostNoneSpec).at F).post enc Tryz.prog Tryz.f7 false true false false) := by
  refine returnsInHanded_of_row (C := Tryz.checked) (s := (Rows.OpenSpec.upto Rows.hostNoneSpec)) own started (by kernel_rfl) Tryz.func7
    (witness_row_atRef (enc := enc) (C := Tryz.checked) false (Hp os) #[.agg #[(.string ⟨#[]⟩), (.slice none 0 0)]] rfl (by kernel_rfl) (by kernel_rfl) (by kernel_rfl) (witness_row os enc)) ?_
  intro W base args ds gs before hval hW _ hk hz hL _ _
  exact contract H enc W base args ds gs before hval hW hk hz hL
theorem said : Rows.HostNoneUptoSaid :=
  OpenClaim.holds_of_cond 7 Tryz.f7 rfl rfl rfl rfl rfl rfl rfl ⟨rfl, rfl, rfl, rfl, rfl⟩ rfl rfl rfl rfl rfl (by kernel_rfl) Tryz.func7 (by kernel_rfl)
    (of_decide_eq_true (by kernel_rfl)) (by unfold Func.isWrapper; first | (rw [if_pos (by decide +kernel)]; kernel_rfl) | (rw [if_neg (by decide +kernel)]; exact ⟨rfl, rfl⟩))
    (fun os started H enc _ F => by rw [OpenClaim.pre_eq_preRow]; exact lifted os started H enc F)
theorem plain (f : FuncId) (fn : Func) (hf : Tryz.pinned.checked.prog.funcNamed "faas/faaslaw35.HostNone" = some f) (hfn : Tryz.pinned.checked.prog.funcs[f]? = some fn) :
    true = Tryz.pinned.checked.prog.looks [] ∧ ∀ (j : Nat) t, fn.params[j]? = some t → Tryz.pinned.checked.prog.wantsStandIn t = false := by
  obtain rfl : f = 7 := Option.some.inj ((show Tryz.prog.funcNamed "faas/faaslaw35.HostNone" = some 7 by kernel_rfl).symm.trans hf) |>.symm
  obtain rfl : fn = Tryz.f7 := (Option.some.inj (Tryz.func7.symm.trans hfn)).symm
  refine ⟨by kernel_rfl, fun j t ht => ?_⟩
  rw [Tryz.params7] at ht
  have hm := Array.mem_of_getElem? ht
  have hall : ∀ t ∈ (#[29] : Array TypeId), Tryz.prog.wantsStandIn t = false := by
    intro t ht
    have := List.all_eq_true.1 (show ([29] : List TypeId).all (fun t => !Tryz.prog.wantsStandIn t) = true by kernel_rfl) t (by simpa using ht)
    simpa using this
  exact hall t hm
theorem card : Rows.HostNoneUptoCardSaid :=
  Claim7.holds_tied_plain_at .later [] _ _ _ _ said (fun _ h => by cases h) (by kernel_rfl) (fun _ h => by cases h) hostNoneUpto_row_tie rfl ⟨rfl, rfl⟩ (by kernel_rfl) rfl plain (by kernel_rfl)
end Go.Proofs.YtmjlemhondjfhaaGreatDoor.lawHostNone
namespace Go.Proofs.YtmjlemhondjfhaaGreatDoor
theorem hostNone_card : Rows.HostNoneUptoCardSaid := lawHostNone.card
end Go.Proofs.YtmjlemhondjfhaaGreatDoor
#print axioms Go.Proofs.YtmjlemhondjfhaaGreatDoor.hostNone_card
