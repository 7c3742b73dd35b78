/-
  The law OutboxOnce holds of the given program for every input of the bulk that the second form names.
-/
import Derived.Test.YtfobhhegpkinaaaGreatDoorOO6
namespace Go.Proofs.YtfobhhegpkinaaaGreatDoor.lawOutboxOnce
open Go Go.Proofs.YtfobhhegpkinaaaGreatDoor.Q Go.ChangeShapes Go.WideShapes Go.ChangeAt Go.RowKit
open Go.ChangeMaps (open_string)
set_option linter.unusedVariables false
set_option linter.unusedSimpArgs false
set_option maxRecDepth 100000
theorem opn3 : EV Tryz.prog 3 VD (Ch .i64) := EV.int Tryz.underlying3 (fun _ => rfl)
theorem opn9 : EV Tryz.prog 9 eS MS := EV.str Tryz.underlying9 (fun _ => rfl)
theorem opn81 : EV Tryz.prog 81 VD (Ch .i64) := EV.int Tryz.underlying81 (fun _ => rfl)
-- struct Ac
theorem opn83 : EV Tryz.prog 83 Af Aae := fun h hB => by
  obtain ⟨xs, k, _, hxe, hlen, hxl, hf⟩ := DataW.trod_struct Tryz.underlying83 h
  rw [hxe] at hB
  have hxl : xs.length = 4 := hxl
  have ct : Tryz.prog.cellsOf 83 = 4 := by kernel_rfl
  rw [ct] at hlen
  have g0 : DataW.trod _ _ _ _ _ _ _ 81 ((List.drop 0 _).take (Tryz.prog.cellsOf 81)) = _ := hf 0 _ rfl
  have c0 : Tryz.prog.cellsOf 81 = 1 := by kernel_rfl
  rw [c0, List.getElem?_eq_getElem (by omega)] at g0
  obtain ⟨y0, o0, r0⟩ := opn81 g0 (CE (by omega) hB)
  have g1 : DataW.trod _ _ _ _ _ _ _ 3 ((List.drop 1 _).take (Tryz.prog.cellsOf 3)) = _ := hf 1 _ rfl
  have c1 : Tryz.prog.cellsOf 3 = 1 := by kernel_rfl
  rw [c1, List.getElem?_eq_getElem (by omega)] at g1
  obtain ⟨y1, o1, r1⟩ := opn3 g1 (CE (by omega) hB)
  have g2 : DataW.trod _ _ _ _ _ _ _ 9 ((List.drop 2 _).take (Tryz.prog.cellsOf 9)) = _ := hf 2 _ rfl
  have c2 : Tryz.prog.cellsOf 9 = 1 := by kernel_rfl
  rw [c2, List.getElem?_eq_getElem (by omega)] at g2
  obtain ⟨y2, o2, r2⟩ := opn9 g2 (CE (by omega) hB)
  have g3 : DataW.trod _ _ _ _ _ _ _ 3 ((List.drop 3 _).take (Tryz.prog.cellsOf 3)) = _ := hf 3 _ rfl
  have c3 : Tryz.prog.cellsOf 3 = 1 := by kernel_rfl
  rw [c3, List.getElem?_eq_getElem (by omega)] at g3
  obtain ⟨y3, o3, r3⟩ := opn3 g3 (CE (by omega) hB)
  refine ⟨⟨y0, y1, y2, y3⟩, by simp only [Aae, o0, o1, o2, o3, Bool.and_self], ?_⟩
  exact (CZ r0 rfl (CZ r1 rfl (CZ r2 rfl (CZ r3 rfl (OJ hlen)))))
theorem opn31 : EV Tryz.prog 31 (fun ys : (List Ac) => [Be 4 (ys.map Af)]) (fun ys : (List Ac) => ys.all Aae && decide (ys.length ≤ 1048576)) := EV.slice Tryz.underlying31 (by kernel_rfl) (by decide) opn83 BC (fun _ => rfl)
theorem opn63 : EV Tryz.prog 63 VD (Ch .i64) := EV.int Tryz.underlying63 (fun _ => rfl)
-- struct As
theorem opn65 : EV Tryz.prog 65 Au Acs := fun h hB => by
  obtain ⟨xs, k, _, hxe, hlen, hxl, hf⟩ := DataW.trod_struct Tryz.underlying65 h
  rw [hxe] at hB
  have hxl : xs.length = 4 := hxl
  have ct : Tryz.prog.cellsOf 65 = 4 := by kernel_rfl
  rw [ct] at hlen
  have g0 : DataW.trod _ _ _ _ _ _ _ 63 ((List.drop 0 _).take (Tryz.prog.cellsOf 63)) = _ := hf 0 _ rfl
  have c0 : Tryz.prog.cellsOf 63 = 1 := by kernel_rfl
  rw [c0, List.getElem?_eq_getElem (by omega)] at g0
  obtain ⟨y0, o0, r0⟩ := opn63 g0 (CE (by omega) hB)
  have g1 : DataW.trod _ _ _ _ _ _ _ 9 ((List.drop 1 _).take (Tryz.prog.cellsOf 9)) = _ := hf 1 _ rfl
  have c1 : Tryz.prog.cellsOf 9 = 1 := by kernel_rfl
  rw [c1, List.getElem?_eq_getElem (by omega)] at g1
  obtain ⟨y1, o1, r1⟩ := opn9 g1 (CE (by omega) hB)
  have g2 : DataW.trod _ _ _ _ _ _ _ 31 ((List.drop 2 _).take (Tryz.prog.cellsOf 31)) = _ := hf 2 _ rfl
  have c2 : Tryz.prog.cellsOf 31 = 1 := by kernel_rfl
  rw [c2, List.getElem?_eq_getElem (by omega)] at g2
  obtain ⟨y2, o2, r2⟩ := opn31 g2 (CE (by omega) hB)
  have g3 : DataW.trod _ _ _ _ _ _ _ 3 ((List.drop 3 _).take (Tryz.prog.cellsOf 3)) = _ := hf 3 _ rfl
  have c3 : Tryz.prog.cellsOf 3 = 1 := by kernel_rfl
  rw [c3, List.getElem?_eq_getElem (by omega)] at g3
  obtain ⟨y3, o3, r3⟩ := opn3 g3 (CE (by omega) hB)
  refine ⟨⟨y0, y1, y2, y3⟩, by simp only [Acs, o0, o1, o2, o3, Bool.and_self], ?_⟩
  exact (CZ r0 rfl (CZ r1 rfl (CZ r2 rfl (CZ r3 rfl (OJ hlen)))))
theorem opn32 : EV Tryz.prog 32 (fun ys : (List As) => [Be 4 (ys.map Au)]) (fun ys : (List As) => ys.all Acs && decide (ys.length ≤ 1048576)) := EV.slice Tryz.underlying32 (by kernel_rfl) (by decide) opn65 DC (fun _ => rfl)
-- struct AE
theorem opn34 : EV Tryz.prog 34 BB AdK := fun h hB => by
  obtain ⟨xs, k, _, hxe, hlen, hxl, hf⟩ := DataW.trod_struct Tryz.underlying34 h
  rw [hxe] at hB
  have hxl : xs.length = 6 := hxl
  have ct : Tryz.prog.cellsOf 34 = 6 := by kernel_rfl
  rw [ct] at hlen
  have g0 : DataW.trod _ _ _ _ _ _ _ 9 ((List.drop 0 _).take (Tryz.prog.cellsOf 9)) = _ := hf 0 _ rfl
  have c0 : Tryz.prog.cellsOf 9 = 1 := by kernel_rfl
  rw [c0, List.getElem?_eq_getElem (by omega)] at g0
  obtain ⟨y0, o0, r0⟩ := opn9 g0 (CE (by omega) hB)
  have g1 : DataW.trod _ _ _ _ _ _ _ 9 ((List.drop 1 _).take (Tryz.prog.cellsOf 9)) = _ := hf 1 _ rfl
  have c1 : Tryz.prog.cellsOf 9 = 1 := by kernel_rfl
  rw [c1, List.getElem?_eq_getElem (by omega)] at g1
  obtain ⟨y1, o1, r1⟩ := opn9 g1 (CE (by omega) hB)
  have g2 : DataW.trod _ _ _ _ _ _ _ 3 ((List.drop 2 _).take (Tryz.prog.cellsOf 3)) = _ := hf 2 _ rfl
  have c2 : Tryz.prog.cellsOf 3 = 1 := by kernel_rfl
  rw [c2, List.getElem?_eq_getElem (by omega)] at g2
  obtain ⟨y2, o2, r2⟩ := opn3 g2 (CE (by omega) hB)
  have g3 : DataW.trod _ _ _ _ _ _ _ 31 ((List.drop 3 _).take (Tryz.prog.cellsOf 31)) = _ := hf 3 _ rfl
  have c3 : Tryz.prog.cellsOf 31 = 1 := by kernel_rfl
  rw [c3, List.getElem?_eq_getElem (by omega)] at g3
  obtain ⟨y3, o3, r3⟩ := opn31 g3 (CE (by omega) hB)
  have g4 : DataW.trod _ _ _ _ _ _ _ 32 ((List.drop 4 _).take (Tryz.prog.cellsOf 32)) = _ := hf 4 _ rfl
  have c4 : Tryz.prog.cellsOf 32 = 1 := by kernel_rfl
  rw [c4, List.getElem?_eq_getElem (by omega)] at g4
  obtain ⟨y4, o4, r4⟩ := opn32 g4 (CE (by omega) hB)
  have g5 : DataW.trod _ _ _ _ _ _ _ 3 ((List.drop 5 _).take (Tryz.prog.cellsOf 3)) = _ := hf 5 _ rfl
  have c5 : Tryz.prog.cellsOf 3 = 1 := by kernel_rfl
  rw [c5, List.getElem?_eq_getElem (by omega)] at g5
  obtain ⟨y5, o5, r5⟩ := opn3 g5 (CE (by omega) hB)
  refine ⟨⟨y0, y1, y2, y3, y4, y5⟩, by simp only [AdK, o0, o1, o2, o3, o4, o5, Bool.and_self], ?_⟩
  exact (CZ r0 rfl (CZ r1 rfl (CZ r2 rfl (CZ r3 rfl (CZ r4 rfl (CZ r5 rfl (OJ hlen)))))))
-- struct Bb
theorem opn36 : EV Tryz.prog 36 AL Acu := fun h hB => by
  obtain ⟨xs, k, _, hxe, hlen, hxl, hf⟩ := DataW.trod_struct Tryz.underlying36 h
  rw [hxe] at hB
  have hxl : xs.length = 4 := hxl
  have ct : Tryz.prog.cellsOf 36 = 9 := by kernel_rfl
  rw [ct] at hlen
  have g0 : DataW.trod _ _ _ _ _ _ _ 3 ((List.drop 0 _).take (Tryz.prog.cellsOf 3)) = _ := hf 0 _ rfl
  have c0 : Tryz.prog.cellsOf 3 = 1 := by kernel_rfl
  rw [c0, List.getElem?_eq_getElem (by omega)] at g0
  obtain ⟨y0, o0, r0⟩ := opn3 g0 (CE (by omega) hB)
  have g1 : DataW.trod _ _ _ _ _ _ _ 34 ((List.drop 1 _).take (Tryz.prog.cellsOf 34)) = _ := hf 1 _ rfl
  have c1 : Tryz.prog.cellsOf 34 = 6 := by kernel_rfl
  rw [c1, List.getElem?_eq_getElem (by omega)] at g1
  obtain ⟨y1, o1, r1⟩ := opn34 g1 (CE (by omega) hB)
  have g2 : DataW.trod _ _ _ _ _ _ _ 9 ((List.drop 7 _).take (Tryz.prog.cellsOf 9)) = _ := hf 2 _ rfl
  have c2 : Tryz.prog.cellsOf 9 = 1 := by kernel_rfl
  rw [c2, List.getElem?_eq_getElem (by omega)] at g2
  obtain ⟨y2, o2, r2⟩ := opn9 g2 (CE (by omega) hB)
  have g3 : DataW.trod _ _ _ _ _ _ _ 3 ((List.drop 8 _).take (Tryz.prog.cellsOf 3)) = _ := hf 3 _ rfl
  have c3 : Tryz.prog.cellsOf 3 = 1 := by kernel_rfl
  rw [c3, List.getElem?_eq_getElem (by omega)] at g3
  obtain ⟨y3, o3, r3⟩ := opn3 g3 (CE (by omega) hB)
  refine ⟨⟨y0, y1, y2, y3⟩, by simp only [Acu, o0, o1, o2, o3, Bool.and_self], ?_⟩
  exact (CZ r0 rfl (CZ r1 rfl (CZ r2 rfl (CZ r3 rfl (OJ hlen)))))
theorem opn22 : EV Tryz.prog 22 (fun ys : (List Bb) => [Be 9 (ys.map AL)]) (fun ys : (List Bb) => ys.all Acu && decide (ys.length ≤ 1048576)) := EV.slice Tryz.underlying22 (by kernel_rfl) (by decide) opn36 Np (fun _ => rfl)
theorem contract (H : Type) (enc : TypeId × Value → H) (W : World) (base : Nat) (args : Array Value) (ds gs : List (DataW H)) (before : List MemPlace)
    (hval : ∀ (j : Nat) t v, Tryz.f6.params[j]? = some t → args[j]? = some v → Value.okWide Tryz.prog W .any base t v)
    (hW : DataW.Whole enc Tryz.prog Tryz.f6.params.toList Rows.outboxOnceSpec.vars false W args.toList ds gs before)
    (hk : ∀ k, ((Rows.OpenSpec.upto Rows.outboxOnceSpec)).cond = some k → k H (ds ++ gs) = true)
    (hz : (DataW.weightsEach Tryz.prog (Tryz.f6.params.toList ++ []) (ds ++ gs)).all (· ≤ reachBytes) = true) (hL : laidMet Tryz.prog PT W) :
    Calls Tryz.prog 6 args W fun e W' => ∃ v, e = .returned v ∧ Rows.outboxOnceSpec.post enc Tryz.prog Tryz.f6 false true false false W args v W' := by
  have hE := Aeh hL
  have hW' := hW
  obtain ⟨p, q, hA0, hV, hbf, hfz, hnd⟩ := hW
  have hA : DataW.TrodAll enc Tryz.prog W 0 (fun _ => true) true Tryz.f6.params.toList args.toList ds p := hA0
  rw [Tryz.params6] at hA hval hz
  obtain ⟨rfl, rfl⟩ := trodVars_none hV
  obtain ⟨v0, vs0, d0, ds0, p0, q0, hargs, hd0, hq0, h0, r0⟩ := trodAll_cons hA
  obtain ⟨v1, vs1, d1, ds1, p1, q1, hv1, hd1, hq1, h1, r1⟩ := trodAll_cons r0
  obtain ⟨hvn, hdn, hqn⟩ := trodAll_nil r1
  obtain rfl : args = #[v0, v1] := by cases args; simp_all
  obtain rfl : ds = [d0, d1] := by simp_all
  have hB : Rows.uptoBulkAll [d0, d1] ≤ 1048576 := of_decide_eq_true (hk _ rfl)
  have hB0 : Rows.uptoBulk d0 ≤ 1048576 := Nat.le_trans (KY (by simp)) hB
  have hB1 : Rows.uptoBulk d1 ≤ 1048576 := Nat.le_trans (KY (by simp)) hB
  obtain ⟨a0, l0, c0, e0⟩ := okWide_slice Tryz.underlying22 (hval 0 22 v0 rfl rfl)
  obtain ⟨y0, oy0, hr0⟩ := EV.val (opn22) (r := fun y => Be 9 (List.map AL y)) (fun _ => rfl) (by rw [e0]; rfl) h0 hB0
  obtain ⟨a1, e1⟩ := okWide_string Tryz.underlying9 (hval 1 9 v1 rfl rfl)
  obtain ⟨y1, oy1, hr1⟩ := EV.val (opn9) (r := fun y => rS y) (fun _ => rfl) (by rw [e1]; rfl) h1 hB1
  obtain ⟨F, hF⟩ := law y0 y1 oy0 oy1
  refine (AaJ F y0 y1 true hF W (ZW W) [v0, v1] ⟨hr0, hr1, trivial⟩ (Z6 hE)).mono fun e W' ⟨R, v, Ho, Z', he, ⟨hR, _⟩, hp, hs⟩ => ?_
  subst hR
  obtain rfl : v = .bool true := hp
  exact ⟨_, he, XG AcE (by kernel_rfl) rfl rfl VK hW' rfl rfl rfl (Z7 hs)⟩
theorem witness_row (os : Os) {H : Type} (enc : TypeId × Value → H) :
    (Rows.OpenSpec.upto Rows.outboxOnceSpec).preRow enc Tryz.prog Tryz.f6 Rows.outboxOnceUptoRow.domain false Rows.outboxOnceUptoRow.laid ((L2 os).forCall (fun _ _ => 0) ⟨#[], #[.slice none 0 0, .string ⟨#[]⟩], []⟩).memory #[.slice none 0 0, .string ⟨#[]⟩] := by
  have hw : (DataW.whole enc Tryz.prog ((L2 os).forCall (fun _ _ => 0) ⟨#[], #[.slice none 0 0, .string ⟨#[]⟩], []⟩).memory Tryz.f6.params.toList Rows.outboxOnceSpec.vars false #[.slice none 0 0, .string ⟨#[]⟩].toList 8).map (fun x => (x.1, x.2.1)) =
      some ([.nil, .lit (.string [])], []) := by kernel_rfl
  obtain ⟨⟨x1, x2, x3⟩, hx, hx1⟩ := Option.map_eq_some_iff.1 hw
  simp only [Prod.mk.injEq] at hx1
  obtain ⟨rfl, rfl⟩ := hx1
  exact OpenSpec.preRow_of_cond 8 hx (by kernel_rfl) (fun k hk => by cases hk; kernel_rfl) (by kernel_rfl) (AaI os _)
theorem lifted (os : Os) (started : os.Started) (H : Type) (enc : TypeId × Value → H) (F : Stop.Interp) :
    ReturnsInHanded {} Tryz.checked os 6 .any ((Rows.OpenSpec.upto Rows.outboxOnceSpec).preRow enc Tryz.prog Tryz.f6 Rows.outboxOnceUptoRow.domain false Rows.outboxOnceUptoRow.laid) (((Rows.OpenSpec.upto Rows.outboxOnceSpec).at F).post enc Tryz.prog Tryz.f6 false true false false) := by
  refine returnsInHanded_of_row (C := Tryz.checked) (s := (Rows.OpenSpec.upto Rows.outboxOnceSpec)) own started (by kernel_rfl) Tryz.func6
    (witness_row_atRef (enc := enc) (C := Tryz.checked) false (L2 os) #[.slice none 0 0, .string ⟨#[]⟩] rfl (by kernel_rfl) (by kernel_rfl) (by kernel_rfl) (witness_row os enc)) ?_
  intro W base args ds gs before hval hW _ hk hz hL _ _
  exact contract H enc W base args ds gs before hval hW hk hz hL
theorem said : Rows.OutboxOnceUptoSaid :=
  OpenClaim.holds_of_cond 6 Tryz.f6 rfl rfl rfl rfl rfl rfl rfl ⟨rfl, rfl, rfl, rfl, rfl⟩ rfl rfl rfl rfl rfl (by kernel_rfl) Tryz.func6 (by kernel_rfl)
    (of_decide_eq_true (by kernel_rfl)) (by unfold Func.isWrapper; first | (rw [if_pos (by decide +kernel)]; kernel_rfl) | (rw [if_neg (by decide +kernel)]; exact ⟨rfl, rfl⟩))
    (fun os started H enc _ F => by rw [OpenClaim.pre_eq_preRow]; exact lifted os started H enc F)
theorem plain (f : FuncId) (fn : Func) (hf : Tryz.pinned.checked.prog.funcNamed "faas/faaslaw47.OutboxOnce" = some f) (hfn : Tryz.pinned.checked.prog.funcs[f]? = some fn) :
    true = Tryz.pinned.checked.prog.looks [] ∧ ∀ (j : Nat) t, fn.params[j]? = some t → Tryz.pinned.checked.prog.wantsStandIn t = false := by
  obtain rfl : f = 6 := Option.some.inj ((show Tryz.prog.funcNamed "faas/faaslaw47.OutboxOnce" = some 6 by kernel_rfl).symm.trans hf) |>.symm
  obtain rfl : fn = Tryz.f6 := (Option.some.inj (Tryz.func6.symm.trans hfn)).symm
  refine ⟨by kernel_rfl, fun j t ht => ?_⟩
  rw [Tryz.params6] at ht
  have hm := Array.mem_of_getElem? ht
  have hall : ∀ t ∈ (#[22, 9] : Array TypeId), Tryz.prog.wantsStandIn t = false := by
    intro t ht
    have := List.all_eq_true.1 (show ([22, 9] : List TypeId).all (fun t => !Tryz.prog.wantsStandIn t) = true by kernel_rfl) t (by simpa using ht)
    simpa using this
  exact hall t hm
theorem card : Rows.OutboxOnceUptoCardSaid :=
  Claim7.holds_tied_plain_at .later [] _ _ _ _ said (fun _ h => by cases h) (by kernel_rfl) (fun _ h => by cases h) outboxOnceUpto_row_tie rfl ⟨rfl, rfl⟩ (by kernel_rfl) rfl plain (by kernel_rfl)
end Go.Proofs.YtfobhhegpkinaaaGreatDoor.lawOutboxOnce
namespace Go.Proofs.YtfobhhegpkinaaaGreatDoor
theorem outboxOnce_card : Rows.OutboxOnceUptoCardSaid := lawOutboxOnce.card
end Go.Proofs.YtfobhhegpkinaaaGreatDoor
#print axioms Go.Proofs.YtfobhhegpkinaaaGreatDoor.outboxOnce_card
