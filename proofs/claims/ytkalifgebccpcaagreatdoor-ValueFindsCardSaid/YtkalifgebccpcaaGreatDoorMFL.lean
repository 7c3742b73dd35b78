/-
  The law ValueFinds holds of the given program for every input.
-/
import Derived.Test.YtkalifgebccpcaaGreatDoorMF6
namespace Go.Proofs.YtkalifgebccpcaaGreatDoor.lawValueFinds
open Go Go.Proofs.YtkalifgebccpcaaGreatDoor.Q Go.ChangeShapes Go.WideShapes Go.ChangeAt Go.RowKit
open Go.ChangeMaps (open_string)
set_option linter.unusedVariables false
set_option linter.unusedSimpArgs false
set_option maxRecDepth 100000
theorem opn61 : Opn Tryz.prog 61 eI_i64 (inK .i64) := Opn.int Tryz.underlying61 (fun _ => rfl)
theorem opn3 : Opn Tryz.prog 3 eI_i64 (inK .i64) := Opn.int Tryz.underlying3 (fun _ => rfl)
theorem opn9 : Opn Tryz.prog 9 eS okS := Opn.str Tryz.underlying9 (fun _ => rfl)
-- struct TApiCell
theorem opn63 : Opn Tryz.prog 63 eTApiCell ok63 := fun h => by
  obtain ⟨xs, k, _, _, hlen, hxl, hf⟩ := DataW.trod_struct Tryz.underlying63 h
  have hxl : xs.length = 4 := hxl
  have ct : Tryz.prog.cellsOf 63 = 4 := by kernel_rfl
  rw [ct] at hlen
  have g0 : DataW.trod _ _ _ _ _ _ _ 61 ((List.drop 0 _).take (Tryz.prog.cellsOf 61)) = _ := hf 0 _ rfl
  have c0 : Tryz.prog.cellsOf 61 = 1 := by kernel_rfl
  rw [c0, List.getElem?_eq_getElem (by omega)] at g0
  obtain ⟨y0, o0, r0⟩ := opn61 g0
  have g1 : DataW.trod _ _ _ _ _ _ _ 3 ((List.drop 1 _).take (Tryz.prog.cellsOf 3)) = _ := hf 1 _ rfl
  have c1 : Tryz.prog.cellsOf 3 = 1 := by kernel_rfl
  rw [c1, List.getElem?_eq_getElem (by omega)] at g1
  obtain ⟨y1, o1, r1⟩ := opn3 g1
  have g2 : DataW.trod _ _ _ _ _ _ _ 9 ((List.drop 2 _).take (Tryz.prog.cellsOf 9)) = _ := hf 2 _ rfl
  have c2 : Tryz.prog.cellsOf 9 = 1 := by kernel_rfl
  rw [c2, List.getElem?_eq_getElem (by omega)] at g2
  obtain ⟨y2, o2, r2⟩ := opn9 g2
  have g3 : DataW.trod _ _ _ _ _ _ _ 3 ((List.drop 3 _).take (Tryz.prog.cellsOf 3)) = _ := hf 3 _ rfl
  have c3 : Tryz.prog.cellsOf 3 = 1 := by kernel_rfl
  rw [c3, List.getElem?_eq_getElem (by omega)] at g3
  obtain ⟨y3, o3, r3⟩ := opn3 g3
  refine ⟨⟨y0, y1, y2, y3⟩, by simp only [ok63, o0, o1, o2, o3, Bool.and_self], ?_⟩
  exact (seg_cons r0 rfl (seg_cons r1 rfl (seg_cons r2 rfl (seg_cons r3 rfl (seg_nil hlen)))))
theorem opn23 : Opn Tryz.prog 23 (fun ys : (List TApiCell) => [rSl 4 (ys.map eTApiCell)]) (fun ys : (List TApiCell) => ys.all ok63 && decide (ys.length ≤ 9223372036854775807)) := Opn.slice Tryz.underlying23 (by kernel_rfl) (by decide) opn63 eTApiCell_len (fun _ => rfl)
theorem opn29 : Opn Tryz.prog 29 (fun ys : (List Str) => [rSl 1 (ys.map eS)]) (fun ys : (List Str) => ys.all okS && decide (ys.length ≤ 9223372036854775807)) := Opn.slice Tryz.underlying29 (by kernel_rfl) (by decide) opn9 eS_len (fun _ => rfl)
theorem contract (H : Type) (enc : TypeId × Value → H) (W : World) (base : Nat) (args : Array Value) (ds gs : List (DataW H)) (before : List MemPlace)
    (hval : ∀ (j : Nat) t v, Tryz.f6.params[j]? = some t → args[j]? = some v → Value.okWide Tryz.prog W .any base t v)
    (hW : DataW.Whole enc Tryz.prog Tryz.f6.params.toList Rows.valueFindsSpec.vars false W args.toList ds gs before)
    (hz : (DataW.weightsEach Tryz.prog (Tryz.f6.params.toList ++ []) (ds ++ gs)).all (· ≤ reachBytes) = true) (hL : laidMet Tryz.prog laidList W) :
    Calls Tryz.prog 6 args W fun e W' => ∃ v, e = .returned v ∧ Rows.valueFindsSpec.post enc Tryz.prog Tryz.f6 false true false false W args v W' := by
  have hE := env_of hL
  have hW' := hW
  obtain ⟨p, q, hA0, hV, hbf, hfz, hnd⟩ := hW
  have hA : DataW.TrodAll enc Tryz.prog W 0 (fun _ => true) true Tryz.f6.params.toList args.toList ds p := hA0
  rw [Tryz.params6] at hA hval hz
  obtain ⟨rfl, rfl⟩ := trodVars_none hV
  obtain ⟨v0, vs0, d0, ds0, p0, q0, hargs, hd0, hq0, h0, r0⟩ := trodAll_cons hA
  obtain ⟨v1, vs1, d1, ds1, p1, q1, hv1, hd1, hq1, h1, r1⟩ := trodAll_cons r0
  obtain ⟨v2, vs2, d2, ds2, p2, q2, hv2, hd2, hq2, h2, r2⟩ := trodAll_cons r1
  obtain ⟨v3, vs3, d3, ds3, p3, q3, hv3, hd3, hq3, h3, r3⟩ := trodAll_cons r2
  obtain ⟨hvn, hdn, hqn⟩ := trodAll_nil r3
  obtain rfl : args = #[v0, v1, v2, v3] := by cases args; simp_all
  obtain rfl : ds = [d0, d1, d2, d3] := by simp_all
  obtain ⟨a0, l0, c0, e0⟩ := okWide_slice Tryz.underlying23 (hval 0 23 v0 rfl rfl)
  obtain ⟨y0, oy0, hr0⟩ := Opn.val (opn23) (r := fun y => rSl 4 (List.map eTApiCell y)) (fun _ => rfl) (by rw [e0]; rfl) h0
  obtain ⟨a1, e1⟩ := okWide_string Tryz.underlying9 (hval 1 9 v1 rfl rfl)
  obtain ⟨y1, oy1, hr1⟩ := Opn.val (opn9) (r := fun y => rS y) (fun _ => rfl) (by rw [e1]; rfl) h1
  obtain ⟨a2, l2, c2, e2⟩ := okWide_slice Tryz.underlying23 (hval 2 23 v2 rfl rfl)
  obtain ⟨y2, oy2, hr2⟩ := Opn.val (opn23) (r := fun y => rSl 4 (List.map eTApiCell y)) (fun _ => rfl) (by rw [e2]; rfl) h2
  obtain ⟨a3, l3, c3, e3⟩ := okWide_slice Tryz.underlying29 (hval 3 29 v3 rfl rfl)
  obtain ⟨y3, oy3, hr3⟩ := Opn.val (opn29) (r := fun y => rSl 1 (List.map eS y)) (fun _ => rfl) (by rw [e3]; rfl) h3
  obtain ⟨F, hF⟩ := law y0 y1 y2 y3 oy0 oy1 oy2 oy3
  refine (lFinds_w F y0 y1 y2 y3 true hF W (ZW W) [v0, v1, v2, v3] ⟨hr0, hr1, hr2, hr3, trivial⟩ (st_start hE)).mono fun e W' ⟨R, v, Ho, Z', he, ⟨hR, _⟩, hp, hs⟩ => ?_
  subst hR
  obtain rfl : v = .bool true := hp
  exact ⟨_, he, post_true laidOut (by kernel_rfl) rfl rfl bool_under hW' rfl rfl rfl (st_below hs)⟩
theorem witness_row (os : Os) {H : Type} (enc : TypeId × Value → H) :
    (OpenSpec.ofChange Rows.valueFindsSpec).preRow enc Tryz.prog Tryz.f6 Rows.valueFindsRow.domain false Rows.valueFindsRow.laid ((laidWorld os).forCall (fun _ _ => 0) ⟨#[], #[.slice none 0 0, .string ⟨#[]⟩, .slice none 0 0, .slice none 0 0], []⟩).memory #[.slice none 0 0, .string ⟨#[]⟩, .slice none 0 0, .slice none 0 0] := by
  have hw : (DataW.whole enc Tryz.prog ((laidWorld os).forCall (fun _ _ => 0) ⟨#[], #[.slice none 0 0, .string ⟨#[]⟩, .slice none 0 0, .slice none 0 0], []⟩).memory Tryz.f6.params.toList Rows.valueFindsSpec.vars false #[.slice none 0 0, .string ⟨#[]⟩, .slice none 0 0, .slice none 0 0].toList 8).map (fun x => (x.1, x.2.1)) =
      some ([.nil, .lit (.string []), .nil, .nil], []) := by kernel_rfl
  obtain ⟨⟨x1, x2, x3⟩, hx, hx1⟩ := Option.map_eq_some_iff.1 hw
  simp only [Prod.mk.injEq] at hx1
  obtain ⟨rfl, rfl⟩ := hx1
  exact OpenSpec.preRow_of_cond 8 hx (by kernel_rfl) (fun k hk => by cases hk) (by kernel_rfl) (laid_met os _)
theorem lifted (os : Os) (started : os.Started) (H : Type) (enc : TypeId × Value → H) (F : Stop.Interp) :
    ReturnsInHanded {} Tryz.checked os 6 .any ((OpenSpec.ofChange Rows.valueFindsSpec).preRow enc Tryz.prog Tryz.f6 Rows.valueFindsRow.domain false Rows.valueFindsRow.laid) (((OpenSpec.ofChange Rows.valueFindsSpec).at F).post enc Tryz.prog Tryz.f6 false true false false) := by
  refine returnsInHanded_of_row (C := Tryz.checked) (s := (OpenSpec.ofChange Rows.valueFindsSpec)) own started (by kernel_rfl) Tryz.func6
    (witness_row_atRef (enc := enc) (C := Tryz.checked) false (laidWorld os) #[.slice none 0 0, .string ⟨#[]⟩, .slice none 0 0, .slice none 0 0] rfl (by kernel_rfl) (by kernel_rfl) (by kernel_rfl) (witness_row os enc)) ?_
  intro W base args ds gs before hval hW _ _ hz hL _ _
  exact contract H enc W base args ds gs before hval hW hz hL
theorem said : Rows.ValueFindsSaid :=
  OpenClaim.holds_of_cond 6 Tryz.f6 rfl rfl rfl rfl rfl rfl rfl ⟨rfl, rfl, rfl, rfl, rfl⟩ rfl rfl rfl rfl rfl (by kernel_rfl) Tryz.func6 (by kernel_rfl)
    (of_decide_eq_true (by kernel_rfl)) (by unfold Func.isWrapper; first | (rw [if_pos (by decide +kernel)]; kernel_rfl) | (rw [if_neg (by decide +kernel)]; exact ⟨rfl, rfl⟩))
    (fun os started H enc _ F => by rw [OpenClaim.pre_eq_preRow]; exact lifted os started H enc F)
theorem plain (f : FuncId) (fn : Func) (hf : Tryz.pinned.checked.prog.funcNamed "faas/faaslaw06.ValueFinds" = some f) (hfn : Tryz.pinned.checked.prog.funcs[f]? = some fn) :
    true = Tryz.pinned.checked.prog.looks [] ∧ ∀ (j : Nat) t, fn.params[j]? = some t → Tryz.pinned.checked.prog.wantsStandIn t = false := by
  obtain rfl : f = 6 := Option.some.inj ((show Tryz.prog.funcNamed "faas/faaslaw06.ValueFinds" = some 6 by kernel_rfl).symm.trans hf) |>.symm
  obtain rfl : fn = Tryz.f6 := (Option.some.inj (Tryz.func6.symm.trans hfn)).symm
  refine ⟨by kernel_rfl, fun j t ht => ?_⟩
  rw [Tryz.params6] at ht
  have hm := Array.mem_of_getElem? ht
  have hall : ∀ t ∈ (#[23, 9, 23, 29] : Array TypeId), Tryz.prog.wantsStandIn t = false := by
    intro t ht
    have := List.all_eq_true.1 (show ([23, 9, 23, 29] : List TypeId).all (fun t => !Tryz.prog.wantsStandIn t) = true by kernel_rfl) t (by simpa using ht)
    simpa using this
  exact hall t hm
theorem card : Rows.ValueFindsCardSaid :=
  Claim7.holds_tied_plain_at .later [] _ _ _ _ said (fun _ h => by cases h) (by kernel_rfl) (fun _ h => by cases h) valueFinds_row_tie rfl ⟨rfl, rfl⟩ (by kernel_rfl) rfl plain (by kernel_rfl)
end Go.Proofs.YtkalifgebccpcaaGreatDoor.lawValueFinds
namespace Go.Proofs.YtkalifgebccpcaaGreatDoor
theorem valueFinds_card : Rows.ValueFindsCardSaid := lawValueFinds.card
end Go.Proofs.YtkalifgebccpcaaGreatDoor
#print axioms Go.Proofs.YtkalifgebccpcaaGreatDoor.valueFinds_card
