/-
  The UJ EntitySerializes holds of the given program for every input.
-/
import Derived.Test.YtfbmdidnlhifjaaGreatDoorES4
namespace Go.Proofs.YtfbmdidnlhifjaaGreatDoor.lawEntitySerializes
open Go Go.Proofs.YtfbmdidnlhifjaaGreatDoor.Q Go.ChangeShapes Go.WideShapes Go.ChangeAt Go.RowKit
open Go.ChangeMaps (open_string)
set_option linter.unusedVariables false
set_option linter.unusedSimpArgs false
set_option maxRecDepth 100000
theorem opn3 : IM Tryz.prog 3 EO (BB .i64) := IM.int Tryz.underlying3 (fun _ => rfl)
theorem opn9 : IM Tryz.prog 9 eS Sk := IM.str Tryz.underlying9 (fun _ => rfl)
theorem opn61 : IM Tryz.prog 61 EO (BB .i64) := IM.int Tryz.underlying61 (fun _ => rfl)
-- struct Ab
theorem opn63 : IM Tryz.prog 63 Ac Rs := fun h => by
  obtain ⟨xs, k, _, _, hlen, hxl, hf⟩ := DataW.trod_struct Tryz.underlying63 h
  have hxl : xs.length = 4 := hxl
  have ct : Tryz.prog.cellsOf 63 = 4 := by kernel_rfl
  rw [ct] at hlen
  have g0 : DataW.trod _ _ _ _ _ _ _ 61 ((List.drop 0 _).take (Tryz.prog.cellsOf 61)) = _ := hf 0 _ rfl
  have c0 : Tryz.prog.cellsOf 61 = 1 := by kernel_rfl
  rw [c0, List.getElem?_eq_getElem (by omega)] at g0
  obtain ⟨y0, o0, r0⟩ := opn61 g0
  have g1 : DataW.trod _ _ _ _ _ _ _ 3 ((List.drop 1 _).take (Tryz.prog.cellsOf 3)) = _ := hf 1 _ rfl
  have c1 : Tryz.prog.cellsOf 3 = 1 := by kernel_rfl
  rw [c1, List.getElem?_eq_getElem (by omega)] at g1
  obtain ⟨y1, o1, r1⟩ := opn3 g1
  have g2 : DataW.trod _ _ _ _ _ _ _ 9 ((List.drop 2 _).take (Tryz.prog.cellsOf 9)) = _ := hf 2 _ rfl
  have c2 : Tryz.prog.cellsOf 9 = 1 := by kernel_rfl
  rw [c2, List.getElem?_eq_getElem (by omega)] at g2
  obtain ⟨y2, o2, r2⟩ := opn9 g2
  have g3 : DataW.trod _ _ _ _ _ _ _ 3 ((List.drop 3 _).take (Tryz.prog.cellsOf 3)) = _ := hf 3 _ rfl
  have c3 : Tryz.prog.cellsOf 3 = 1 := by kernel_rfl
  rw [c3, List.getElem?_eq_getElem (by omega)] at g3
  obtain ⟨y3, o3, r3⟩ := opn3 g3
  refine ⟨⟨y0, y1, y2, y3⟩, by simp only [Rs, o0, o1, o2, o3, Bool.and_self], ?_⟩
  exact (CD r0 rfl (CD r1 rfl (CD r2 rfl (CD r3 rfl (LS hlen)))))
theorem opn22 : IM Tryz.prog 22 (fun ys : (List Ab) => [AL 4 (ys.map Ac)]) (fun ys : (List Ab) => ys.all Rs && decide (ys.length ≤ 9223372036854775807)) := IM.slice Tryz.underlying22 (by kernel_rfl) (by decide) opn63 BG (fun _ => rfl)
theorem opn23 : IM Tryz.prog 23 (fun ys : (List (List Ab)) => [AL 1 (ys.map An)]) (fun ys : (List (List Ab)) => ys.all (fun ys : (List Ab) => ys.all Rs && decide (ys.length ≤ 9223372036854775807)) && decide (ys.length ≤ 9223372036854775807)) := IM.slice Tryz.underlying23 (by kernel_rfl) (by decide) opn22 Db (fun _ => rfl)
-- struct Ar
theorem opn25 : IM Tryz.prog 25 Av SF := fun h => by
  obtain ⟨xs, k, _, _, hlen, hxl, hf⟩ := DataW.trod_struct Tryz.underlying25 h
  have hxl : xs.length = 4 := hxl
  have ct : Tryz.prog.cellsOf 25 = 4 := by kernel_rfl
  rw [ct] at hlen
  have g0 : DataW.trod _ _ _ _ _ _ _ 9 ((List.drop 0 _).take (Tryz.prog.cellsOf 9)) = _ := hf 0 _ rfl
  have c0 : Tryz.prog.cellsOf 9 = 1 := by kernel_rfl
  rw [c0, List.getElem?_eq_getElem (by omega)] at g0
  obtain ⟨y0, o0, r0⟩ := opn9 g0
  have g1 : DataW.trod _ _ _ _ _ _ _ 9 ((List.drop 1 _).take (Tryz.prog.cellsOf 9)) = _ := hf 1 _ rfl
  have c1 : Tryz.prog.cellsOf 9 = 1 := by kernel_rfl
  rw [c1, List.getElem?_eq_getElem (by omega)] at g1
  obtain ⟨y1, o1, r1⟩ := opn9 g1
  have g2 : DataW.trod _ _ _ _ _ _ _ 9 ((List.drop 2 _).take (Tryz.prog.cellsOf 9)) = _ := hf 2 _ rfl
  have c2 : Tryz.prog.cellsOf 9 = 1 := by kernel_rfl
  rw [c2, List.getElem?_eq_getElem (by omega)] at g2
  obtain ⟨y2, o2, r2⟩ := opn9 g2
  have g3 : DataW.trod _ _ _ _ _ _ _ 23 ((List.drop 3 _).take (Tryz.prog.cellsOf 23)) = _ := hf 3 _ rfl
  have c3 : Tryz.prog.cellsOf 23 = 1 := by kernel_rfl
  rw [c3, List.getElem?_eq_getElem (by omega)] at g3
  obtain ⟨y3, o3, r3⟩ := opn23 g3
  refine ⟨⟨y0, y1, y2, y3⟩, by simp only [SF, o0, o1, o2, o3, Bool.and_self], ?_⟩
  exact (CD r0 rfl (CD r1 rfl (CD r2 rfl (CD r3 rfl (LS hlen)))))
-- struct Bd
theorem opn39 : IM Tryz.prog 39 AT Ok := fun h => by
  obtain ⟨xs, k, _, _, hlen, hxl, hf⟩ := DataW.trod_struct Tryz.underlying39 h
  have hxl : xs.length = 3 := hxl
  have ct : Tryz.prog.cellsOf 39 = 6 := by kernel_rfl
  rw [ct] at hlen
  have g0 : DataW.trod _ _ _ _ _ _ _ 3 ((List.drop 0 _).take (Tryz.prog.cellsOf 3)) = _ := hf 0 _ rfl
  have c0 : Tryz.prog.cellsOf 3 = 1 := by kernel_rfl
  rw [c0, List.getElem?_eq_getElem (by omega)] at g0
  obtain ⟨y0, o0, r0⟩ := opn3 g0
  have g1 : DataW.trod _ _ _ _ _ _ _ 25 ((List.drop 1 _).take (Tryz.prog.cellsOf 25)) = _ := hf 1 _ rfl
  have c1 : Tryz.prog.cellsOf 25 = 4 := by kernel_rfl
  rw [c1, List.getElem?_eq_getElem (by omega)] at g1
  obtain ⟨y1, o1, r1⟩ := opn25 g1
  have g2 : DataW.trod _ _ _ _ _ _ _ 3 ((List.drop 5 _).take (Tryz.prog.cellsOf 3)) = _ := hf 2 _ rfl
  have c2 : Tryz.prog.cellsOf 3 = 1 := by kernel_rfl
  rw [c2, List.getElem?_eq_getElem (by omega)] at g2
  obtain ⟨y2, o2, r2⟩ := opn3 g2
  refine ⟨⟨y0, y1, y2⟩, by simp only [Ok, o0, o1, o2, Bool.and_self], ?_⟩
  exact (CD r0 rfl (CD r1 rfl (CD r2 rfl (LS hlen))))
theorem opn37 : IM Tryz.prog 37 (fun ys : (List Bd) => [AL 6 (ys.map AT)]) (fun ys : (List Bd) => ys.all Ok && decide (ys.length ≤ 9223372036854775807)) := IM.slice Tryz.underlying37 (by kernel_rfl) (by decide) opn39 II (fun _ => rfl)
theorem contract (H : Type) (enc : TypeId × Value → H) (W : World) (base : Nat) (args : Array Value) (ds gs : List (DataW H)) (before : List MemPlace)
    (hval : ∀ (j : Nat) t v, Tryz.f6.params[j]? = some t → args[j]? = some v → Value.okWide Tryz.prog W .any base t v)
    (hW : DataW.Whole enc Tryz.prog Tryz.f6.params.toList Rows.entitySerializesSpec.vars false W args.toList ds gs before)
    (hz : (DataW.weightsEach Tryz.prog (Tryz.f6.params.toList ++ []) (ds ++ gs)).all (· ≤ reachBytes) = true) (hL : laidMet Tryz.prog Ky W) :
    Calls Tryz.prog 6 args W fun e W' => ∃ v, e = .returned v ∧ Rows.entitySerializesSpec.post enc Tryz.prog Tryz.f6 false true false false W args v W' := by
  have hE := TN hL
  have hW' := hW
  obtain ⟨p, q, hA0, hV, hbf, hfz, hnd⟩ := hW
  have hA : DataW.TrodAll enc Tryz.prog W 0 (fun _ => true) true Tryz.f6.params.toList args.toList ds p := hA0
  rw [Tryz.params6] at hA hval hz
  obtain ⟨rfl, rfl⟩ := trodVars_none hV
  obtain ⟨v0, vs0, d0, ds0, p0, q0, hargs, hd0, hq0, h0, r0⟩ := trodAll_cons hA
  obtain ⟨v1, vs1, d1, ds1, p1, q1, hv1, hd1, hq1, h1, r1⟩ := trodAll_cons r0
  obtain ⟨hvn, hdn, hqn⟩ := trodAll_nil r1
  obtain rfl : args = #[v0, v1] := by cases args; simp_all
  obtain rfl : ds = [d0, d1] := by simp_all
  obtain ⟨a0, l0, c0, e0⟩ := okWide_slice Tryz.underlying37 (hval 0 37 v0 rfl rfl)
  obtain ⟨y0, oy0, hr0⟩ := IM.val (opn37) (r := fun y => AL 6 (List.map AT y)) (fun _ => rfl) (by rw [e0]; rfl) h0
  obtain ⟨a1, e1⟩ := okWide_string Tryz.underlying9 (hval 1 9 v1 rfl rfl)
  obtain ⟨y1, oy1, hr1⟩ := IM.val (opn9) (r := fun y => rS y) (fun _ => rfl) (by rw [e1]; rfl) h1
  obtain ⟨F, hF⟩ := UJ y0 y1 oy0 oy1
  refine (Oz F y0 y1 true hF W (ZW W) [v0, v1] ⟨hr0, hr1, trivial⟩ (QW hE)).mono fun e W' ⟨R, v, Ho, Z', he, ⟨hR, _⟩, hp, hs⟩ => ?_
  subst hR
  obtain rfl : v = .bool true := hp
  exact ⟨_, he, PY SP (by kernel_rfl) rfl rfl OD hW' rfl rfl rfl (QX hs)⟩
theorem witness_row (os : Os) {H : Type} (enc : TypeId × Value → H) :
    (OpenSpec.ofChange Rows.entitySerializesSpec).preRow enc Tryz.prog Tryz.f6 Rows.entitySerializesRow.domain false Rows.entitySerializesRow.laid ((Hx os).forCall (fun _ _ => 0) ⟨#[], #[.slice none 0 0, .string ⟨#[]⟩], []⟩).memory #[.slice none 0 0, .string ⟨#[]⟩] := by
  have hw : (DataW.whole enc Tryz.prog ((Hx os).forCall (fun _ _ => 0) ⟨#[], #[.slice none 0 0, .string ⟨#[]⟩], []⟩).memory Tryz.f6.params.toList Rows.entitySerializesSpec.vars false #[.slice none 0 0, .string ⟨#[]⟩].toList 8).map (fun x => (x.1, x.2.1)) =
      some ([.nil, .lit (.string [])], []) := by kernel_rfl
  obtain ⟨⟨x1, x2, x3⟩, hx, hx1⟩ := Option.map_eq_some_iff.1 hw
  simp only [Prod.mk.injEq] at hx1
  obtain ⟨rfl, rfl⟩ := hx1
  exact OpenSpec.preRow_of_cond 8 hx (by kernel_rfl) (fun k hk => by cases hk) (by kernel_rfl) (RC os _)
theorem lifted (os : Os) (started : os.Started) (H : Type) (enc : TypeId × Value → H) (F : Stop.Interp) :
    ReturnsInHanded {} Tryz.checked os 6 .any ((OpenSpec.ofChange Rows.entitySerializesSpec).preRow enc Tryz.prog Tryz.f6 Rows.entitySerializesRow.domain false Rows.entitySerializesRow.laid) (((OpenSpec.ofChange Rows.entitySerializesSpec).at F).post enc Tryz.prog Tryz.f6 false true false false) := by
  refine returnsInHanded_of_row (C := Tryz.checked) (s := (OpenSpec.ofChange Rows.entitySerializesSpec)) own started (by kernel_rfl) Tryz.func6
    (witness_row_atRef (enc := enc) (C := Tryz.checked) false (Hx os) #[.slice none 0 0, .string ⟨#[]⟩] rfl (by kernel_rfl) (by kernel_rfl) (by kernel_rfl) (witness_row os enc)) ?_
  intro W base args ds gs before hval hW _ _ hz hL _ _
  exact contract H enc W base args ds gs before hval hW hz hL
theorem said : Rows.EntitySerializesSaid :=
  OpenClaim.holds_of_cond 6 Tryz.f6 rfl rfl rfl rfl rfl rfl rfl ⟨rfl, rfl, rfl, rfl, rfl⟩ rfl rfl rfl rfl rfl (by kernel_rfl) Tryz.func6 (by kernel_rfl)
    (of_decide_eq_true (by kernel_rfl)) (by unfold Func.isWrapper; first | (rw [if_pos (by decide +kernel)]; kernel_rfl) | (rw [if_neg (by decide +kernel)]; exact ⟨rfl, rfl⟩))
    (fun os started H enc _ F => by rw [OpenClaim.pre_eq_preRow]; exact lifted os started H enc F)
theorem plain (f : FuncId) (fn : Func) (hf : Tryz.pinned.checked.prog.funcNamed "faas/faaslaw48.EntitySerializes" = some f) (hfn : Tryz.pinned.checked.prog.funcs[f]? = some fn) :
    false = Tryz.pinned.checked.prog.looks [] ∧ ∀ (j : Nat) t, fn.params[j]? = some t → Tryz.pinned.checked.prog.wantsStandIn t = false := by
  obtain rfl : f = 6 := Option.some.inj ((show Tryz.prog.funcNamed "faas/faaslaw48.EntitySerializes" = some 6 by kernel_rfl).symm.trans hf) |>.symm
  obtain rfl : fn = Tryz.f6 := (Option.some.inj (Tryz.func6.symm.trans hfn)).symm
  refine ⟨by kernel_rfl, fun j t ht => ?_⟩
  rw [Tryz.params6] at ht
  have hm := Array.mem_of_getElem? ht
  have hall : ∀ t ∈ (#[37, 9] : Array TypeId), Tryz.prog.wantsStandIn t = false := by
    intro t ht
    have := List.all_eq_true.1 (show ([37, 9] : List TypeId).all (fun t => !Tryz.prog.wantsStandIn t) = true by kernel_rfl) t (by simpa using ht)
    simpa using this
  exact hall t hm
theorem card : Rows.EntitySerializesCardSaid :=
  Claim7.holds_tied_plain_at .later [] _ _ _ _ said (fun _ h => by cases h) (by kernel_rfl) (fun _ h => by cases h) entitySerializes_row_tie rfl ⟨rfl, rfl⟩ (by kernel_rfl) rfl plain (by kernel_rfl)
end Go.Proofs.YtfbmdidnlhifjaaGreatDoor.lawEntitySerializes
namespace Go.Proofs.YtfbmdidnlhifjaaGreatDoor
theorem entitySerializes_card : Rows.EntitySerializesCardSaid := lawEntitySerializes.card
end Go.Proofs.YtfbmdidnlhifjaaGreatDoor
#print axioms Go.Proofs.YtfbmdidnlhifjaaGreatDoor.entitySerializes_card
