/-
  The law OutboxRecovers holds of the given program for every input of the bulk that the second form names.
-/
import Derived.Test.YtfobhhegpkinaaaGreatDoorOR6
namespace Go.Proofs.YtfobhhegpkinaaaGreatDoor.lawOutboxRecovers
open Go Go.Proofs.YtfobhhegpkinaaaGreatDoor.Q Go.ChangeShapes Go.WideShapes Go.ChangeAt Go.RowKit
open Go.ChangeMaps (open_string)
set_option linter.unusedVariables false
set_option linter.unusedSimpArgs false
set_option maxRecDepth 100000
theorem opn3 : Ee Tryz.prog 3 Vm (Cb .i64) := Ee.int Tryz.underlying3 (fun _ => rfl)
theorem opn9 : Ee Tryz.prog 9 eS LJ := Ee.str Tryz.underlying9 (fun _ => rfl)
theorem opn81 : Ee Tryz.prog 81 Vm (Cb .i64) := Ee.int Tryz.underlying81 (fun _ => rfl)
-- struct Ab
theorem opn83 : Ee Tryz.prog 83 Ah ZG := fun h hB => by
  obtain ⟨xs, k, _, hxe, hlen, hxl, hf⟩ := DataW.trod_struct Tryz.underlying83 h
  rw [hxe] at hB
  have hxl : xs.length = 4 := hxl
  have ct : Tryz.prog.cellsOf 83 = 4 := by kernel_rfl
  rw [ct] at hlen
  have g0 : DataW.trod _ _ _ _ _ _ _ 81 ((List.drop 0 _).take (Tryz.prog.cellsOf 81)) = _ := hf 0 _ rfl
  have c0 : Tryz.prog.cellsOf 81 = 1 := by kernel_rfl
  rw [c0, List.getElem?_eq_getElem (by omega)] at g0
  obtain ⟨y0, o0, r0⟩ := opn81 g0 (C3 (by omega) hB)
  have g1 : DataW.trod _ _ _ _ _ _ _ 3 ((List.drop 1 _).take (Tryz.prog.cellsOf 3)) = _ := hf 1 _ rfl
  have c1 : Tryz.prog.cellsOf 3 = 1 := by kernel_rfl
  rw [c1, List.getElem?_eq_getElem (by omega)] at g1
  obtain ⟨y1, o1, r1⟩ := opn3 g1 (C3 (by omega) hB)
  have g2 : DataW.trod _ _ _ _ _ _ _ 9 ((List.drop 2 _).take (Tryz.prog.cellsOf 9)) = _ := hf 2 _ rfl
  have c2 : Tryz.prog.cellsOf 9 = 1 := by kernel_rfl
  rw [c2, List.getElem?_eq_getElem (by omega)] at g2
  obtain ⟨y2, o2, r2⟩ := opn9 g2 (C3 (by omega) hB)
  have g3 : DataW.trod _ _ _ _ _ _ _ 3 ((List.drop 3 _).take (Tryz.prog.cellsOf 3)) = _ := hf 3 _ rfl
  have c3 : Tryz.prog.cellsOf 3 = 1 := by kernel_rfl
  rw [c3, List.getElem?_eq_getElem (by omega)] at g3
  obtain ⟨y3, o3, r3⟩ := opn3 g3 (C3 (by omega) hB)
  refine ⟨⟨y0, y1, y2, y3⟩, by simp only [ZG, o0, o1, o2, o3, Bool.and_self], ?_⟩
  exact (CV r0 rfl (CV r1 rfl (CV r2 rfl (CV r3 rfl (Ou hlen)))))
theorem opn31 : Ee Tryz.prog 31 (fun ys : (List Ab) => [Br 4 (ys.map Ah)]) (fun ys : (List Ab) => ys.all ZG && decide (ys.length ≤ 1048576)) := Ee.slice Tryz.underlying31 (by kernel_rfl) (by decide) opn83 B7 (fun _ => rfl)
theorem opn63 : Ee Tryz.prog 63 Vm (Cb .i64) := Ee.int Tryz.underlying63 (fun _ => rfl)
-- struct Ap
theorem opn65 : Ee Tryz.prog 65 Av AbU := fun h hB => by
  obtain ⟨xs, k, _, hxe, hlen, hxl, hf⟩ := DataW.trod_struct Tryz.underlying65 h
  rw [hxe] at hB
  have hxl : xs.length = 4 := hxl
  have ct : Tryz.prog.cellsOf 65 = 4 := by kernel_rfl
  rw [ct] at hlen
  have g0 : DataW.trod _ _ _ _ _ _ _ 63 ((List.drop 0 _).take (Tryz.prog.cellsOf 63)) = _ := hf 0 _ rfl
  have c0 : Tryz.prog.cellsOf 63 = 1 := by kernel_rfl
  rw [c0, List.getElem?_eq_getElem (by omega)] at g0
  obtain ⟨y0, o0, r0⟩ := opn63 g0 (C3 (by omega) hB)
  have g1 : DataW.trod _ _ _ _ _ _ _ 9 ((List.drop 1 _).take (Tryz.prog.cellsOf 9)) = _ := hf 1 _ rfl
  have c1 : Tryz.prog.cellsOf 9 = 1 := by kernel_rfl
  rw [c1, List.getElem?_eq_getElem (by omega)] at g1
  obtain ⟨y1, o1, r1⟩ := opn9 g1 (C3 (by omega) hB)
  have g2 : DataW.trod _ _ _ _ _ _ _ 31 ((List.drop 2 _).take (Tryz.prog.cellsOf 31)) = _ := hf 2 _ rfl
  have c2 : Tryz.prog.cellsOf 31 = 1 := by kernel_rfl
  rw [c2, List.getElem?_eq_getElem (by omega)] at g2
  obtain ⟨y2, o2, r2⟩ := opn31 g2 (C3 (by omega) hB)
  have g3 : DataW.trod _ _ _ _ _ _ _ 3 ((List.drop 3 _).take (Tryz.prog.cellsOf 3)) = _ := hf 3 _ rfl
  have c3 : Tryz.prog.cellsOf 3 = 1 := by kernel_rfl
  rw [c3, List.getElem?_eq_getElem (by omega)] at g3
  obtain ⟨y3, o3, r3⟩ := opn3 g3 (C3 (by omega) hB)
  refine ⟨⟨y0, y1, y2, y3⟩, by simp only [AbU, o0, o1, o2, o3, Bool.and_self], ?_⟩
  exact (CV r0 rfl (CV r1 rfl (CV r2 rfl (CV r3 rfl (Ou hlen)))))
theorem opn32 : Ee Tryz.prog 32 (fun ys : (List Ap) => [Br 4 (ys.map Av)]) (fun ys : (List Ap) => ys.all AbU && decide (ys.length ≤ 1048576)) := Ee.slice Tryz.underlying32 (by kernel_rfl) (by decide) opn65 DA (fun _ => rfl)
-- struct AC
theorem opn34 : Ee Tryz.prog 34 B6 Adu := fun h hB => by
  obtain ⟨xs, k, _, hxe, hlen, hxl, hf⟩ := DataW.trod_struct Tryz.underlying34 h
  rw [hxe] at hB
  have hxl : xs.length = 6 := hxl
  have ct : Tryz.prog.cellsOf 34 = 6 := by kernel_rfl
  rw [ct] at hlen
  have g0 : DataW.trod _ _ _ _ _ _ _ 9 ((List.drop 0 _).take (Tryz.prog.cellsOf 9)) = _ := hf 0 _ rfl
  have c0 : Tryz.prog.cellsOf 9 = 1 := by kernel_rfl
  rw [c0, List.getElem?_eq_getElem (by omega)] at g0
  obtain ⟨y0, o0, r0⟩ := opn9 g0 (C3 (by omega) hB)
  have g1 : DataW.trod _ _ _ _ _ _ _ 9 ((List.drop 1 _).take (Tryz.prog.cellsOf 9)) = _ := hf 1 _ rfl
  have c1 : Tryz.prog.cellsOf 9 = 1 := by kernel_rfl
  rw [c1, List.getElem?_eq_getElem (by omega)] at g1
  obtain ⟨y1, o1, r1⟩ := opn9 g1 (C3 (by omega) hB)
  have g2 : DataW.trod _ _ _ _ _ _ _ 3 ((List.drop 2 _).take (Tryz.prog.cellsOf 3)) = _ := hf 2 _ rfl
  have c2 : Tryz.prog.cellsOf 3 = 1 := by kernel_rfl
  rw [c2, List.getElem?_eq_getElem (by omega)] at g2
  obtain ⟨y2, o2, r2⟩ := opn3 g2 (C3 (by omega) hB)
  have g3 : DataW.trod _ _ _ _ _ _ _ 31 ((List.drop 3 _).take (Tryz.prog.cellsOf 31)) = _ := hf 3 _ rfl
  have c3 : Tryz.prog.cellsOf 31 = 1 := by kernel_rfl
  rw [c3, List.getElem?_eq_getElem (by omega)] at g3
  obtain ⟨y3, o3, r3⟩ := opn31 g3 (C3 (by omega) hB)
  have g4 : DataW.trod _ _ _ _ _ _ _ 32 ((List.drop 4 _).take (Tryz.prog.cellsOf 32)) = _ := hf 4 _ rfl
  have c4 : Tryz.prog.cellsOf 32 = 1 := by kernel_rfl
  rw [c4, List.getElem?_eq_getElem (by omega)] at g4
  obtain ⟨y4, o4, r4⟩ := opn32 g4 (C3 (by omega) hB)
  have g5 : DataW.trod _ _ _ _ _ _ _ 3 ((List.drop 5 _).take (Tryz.prog.cellsOf 3)) = _ := hf 5 _ rfl
  have c5 : Tryz.prog.cellsOf 3 = 1 := by kernel_rfl
  rw [c5, List.getElem?_eq_getElem (by omega)] at g5
  obtain ⟨y5, o5, r5⟩ := opn3 g5 (C3 (by omega) hB)
  refine ⟨⟨y0, y1, y2, y3, y4, y5⟩, by simp only [Adu, o0, o1, o2, o3, o4, o5, Bool.and_self], ?_⟩
  exact (CV r0 rfl (CV r1 rfl (CV r2 rfl (CV r3 rfl (CV r4 rfl (CV r5 rfl (Ou hlen)))))))
-- struct Bl
theorem opn36 : Ee Tryz.prog 36 Bc AbV := fun h hB => by
  obtain ⟨xs, k, _, hxe, hlen, hxl, hf⟩ := DataW.trod_struct Tryz.underlying36 h
  rw [hxe] at hB
  have hxl : xs.length = 4 := hxl
  have ct : Tryz.prog.cellsOf 36 = 9 := by kernel_rfl
  rw [ct] at hlen
  have g0 : DataW.trod _ _ _ _ _ _ _ 3 ((List.drop 0 _).take (Tryz.prog.cellsOf 3)) = _ := hf 0 _ rfl
  have c0 : Tryz.prog.cellsOf 3 = 1 := by kernel_rfl
  rw [c0, List.getElem?_eq_getElem (by omega)] at g0
  obtain ⟨y0, o0, r0⟩ := opn3 g0 (C3 (by omega) hB)
  have g1 : DataW.trod _ _ _ _ _ _ _ 34 ((List.drop 1 _).take (Tryz.prog.cellsOf 34)) = _ := hf 1 _ rfl
  have c1 : Tryz.prog.cellsOf 34 = 6 := by kernel_rfl
  rw [c1, List.getElem?_eq_getElem (by omega)] at g1
  obtain ⟨y1, o1, r1⟩ := opn34 g1 (C3 (by omega) hB)
  have g2 : DataW.trod _ _ _ _ _ _ _ 9 ((List.drop 7 _).take (Tryz.prog.cellsOf 9)) = _ := hf 2 _ rfl
  have c2 : Tryz.prog.cellsOf 9 = 1 := by kernel_rfl
  rw [c2, List.getElem?_eq_getElem (by omega)] at g2
  obtain ⟨y2, o2, r2⟩ := opn9 g2 (C3 (by omega) hB)
  have g3 : DataW.trod _ _ _ _ _ _ _ 3 ((List.drop 8 _).take (Tryz.prog.cellsOf 3)) = _ := hf 3 _ rfl
  have c3 : Tryz.prog.cellsOf 3 = 1 := by kernel_rfl
  rw [c3, List.getElem?_eq_getElem (by omega)] at g3
  obtain ⟨y3, o3, r3⟩ := opn3 g3 (C3 (by omega) hB)
  refine ⟨⟨y0, y1, y2, y3⟩, by simp only [AbV, o0, o1, o2, o3, Bool.and_self], ?_⟩
  exact (CV r0 rfl (CV r1 rfl (CV r2 rfl (CV r3 rfl (Ou hlen)))))
theorem opn22 : Ee Tryz.prog 22 (fun ys : (List Bl) => [Br 9 (ys.map Bc)]) (fun ys : (List Bl) => ys.all AbV && decide (ys.length ≤ 1048576)) := Ee.slice Tryz.underlying22 (by kernel_rfl) (by decide) opn36 MJ (fun _ => rfl)
theorem opn4 : Ee Tryz.prog 4 eB (fun _ => true) := Ee.bool Tryz.underlying4 (fun _ => rfl)
theorem opn69 : Ee Tryz.prog 69 (fun ys : (List Bool) => [Br 1 (ys.map eB)]) (fun ys : (List Bool) => ys.all (fun _ => true) && decide (ys.length ≤ 1048576)) := Ee.slice Tryz.underlying69 (by kernel_rfl) (by decide) opn4 AdL (fun _ => rfl)
theorem contract (H : Type) (enc : TypeId × Value → H) (W : World) (base : Nat) (args : Array Value) (ds gs : List (DataW H)) (before : List MemPlace)
    (hval : ∀ (j : Nat) t v, Tryz.f7.params[j]? = some t → args[j]? = some v → Value.okWide Tryz.prog W .any base t v)
    (hW : DataW.Whole enc Tryz.prog Tryz.f7.params.toList Rows.outboxRecoversSpec.vars false W args.toList ds gs before)
    (hk : ∀ k, ((Rows.OpenSpec.upto Rows.outboxRecoversSpec)).cond = some k → k H (ds ++ gs) = true)
    (hz : (DataW.weightsEach Tryz.prog (Tryz.f7.params.toList ++ []) (ds ++ gs)).all (· ≤ reachBytes) = true) (hL : laidMet Tryz.prog P3 W) :
    Calls Tryz.prog 7 args W fun e W' => ∃ v, e = .returned v ∧ Rows.outboxRecoversSpec.post enc Tryz.prog Tryz.f7 false true false false W args v W' := by
  have hE := AdI hL
  have hW' := hW
  obtain ⟨p, q, hA0, hV, hbf, hfz, hnd⟩ := hW
  have hA : DataW.TrodAll enc Tryz.prog W 0 (fun _ => true) true Tryz.f7.params.toList args.toList ds p := hA0
  rw [Tryz.params7] at hA hval hz
  obtain ⟨rfl, rfl⟩ := trodVars_none hV
  obtain ⟨v0, vs0, d0, ds0, p0, q0, hargs, hd0, hq0, h0, r0⟩ := trodAll_cons hA
  obtain ⟨v1, vs1, d1, ds1, p1, q1, hv1, hd1, hq1, h1, r1⟩ := trodAll_cons r0
  obtain ⟨v2, vs2, d2, ds2, p2, q2, hv2, hd2, hq2, h2, r2⟩ := trodAll_cons r1
  obtain ⟨v3, vs3, d3, ds3, p3, q3, hv3, hd3, hq3, h3, r3⟩ := trodAll_cons r2
  obtain ⟨hvn, hdn, hqn⟩ := trodAll_nil r3
  obtain rfl : args = #[v0, v1, v2, v3] := by cases args; simp_all
  obtain rfl : ds = [d0, d1, d2, d3] := by simp_all
  have hB : Rows.uptoBulkAll [d0, d1, d2, d3] ≤ 1048576 := of_decide_eq_true (hk _ rfl)
  have hB0 : Rows.uptoBulk d0 ≤ 1048576 := Nat.le_trans (Io (by simp)) hB
  have hB1 : Rows.uptoBulk d1 ≤ 1048576 := Nat.le_trans (Io (by simp)) hB
  have hB2 : Rows.uptoBulk d2 ≤ 1048576 := Nat.le_trans (Io (by simp)) hB
  have hB3 : Rows.uptoBulk d3 ≤ 1048576 := Nat.le_trans (Io (by simp)) hB
  obtain ⟨a0, l0, c0, e0⟩ := okWide_slice Tryz.underlying22 (hval 0 22 v0 rfl rfl)
  obtain ⟨y0, oy0, hr0⟩ := Ee.val (opn22) (r := fun y => Br 9 (List.map Bc y)) (fun _ => rfl) (by rw [e0]; rfl) h0 hB0
  obtain ⟨a1, l1, c1, e1⟩ := okWide_slice Tryz.underlying69 (hval 1 69 v1 rfl rfl)
  obtain ⟨y1, oy1, hr1⟩ := Ee.val (opn69) (r := fun y => Br 1 (List.map eB y)) (fun _ => rfl) (by rw [e1]; rfl) h1 hB1
  obtain ⟨a2, e2⟩ := okWide_string Tryz.underlying9 (hval 2 9 v2 rfl rfl)
  obtain ⟨y2, oy2, hr2⟩ := Ee.val (opn9) (r := fun y => rS y) (fun _ => rfl) (by rw [e2]; rfl) h2 hB2
  obtain ⟨a3, e3⟩ := okWide_string Tryz.underlying9 (hval 3 9 v3 rfl rfl)
  obtain ⟨y3, oy3, hr3⟩ := Ee.val (opn9) (r := fun y => rS y) (fun _ => rfl) (by rw [e3]; rfl) h3 hB3
  obtain ⟨F, hF⟩ := law y0 y1 y2 y3 oy0 oy1 oy2 oy3
  refine (Sv F y0 y1 y2 y3 true hF W (ZW W) [v0, v1, v2, v3] ⟨hr0, hr1, hr2, hr3, trivial⟩ (Ze hE)).mono fun e W' ⟨R, v, Ho, Z', he, ⟨hR, _⟩, hp, hs⟩ => ?_
  subst hR
  obtain rfl : v = .bool true := hp
  exact ⟨_, he, Xp Acn (by kernel_rfl) rfl rfl Vt hW' rfl rfl rfl (Zf hs)⟩
theorem witness_row (os : Os) {H : Type} (enc : TypeId × Value → H) :
    (Rows.OpenSpec.upto Rows.outboxRecoversSpec).preRow enc Tryz.prog Tryz.f7 Rows.outboxRecoversUptoRow.domain false Rows.outboxRecoversUptoRow.laid ((Lc os).forCall (fun _ _ => 0) ⟨#[], #[.slice none 0 0, .slice none 0 0, .string ⟨#[]⟩, .string ⟨#[]⟩], []⟩).memory #[.slice none 0 0, .slice none 0 0, .string ⟨#[]⟩, .string ⟨#[]⟩] := by
  have hw : (DataW.whole enc Tryz.prog ((Lc os).forCall (fun _ _ => 0) ⟨#[], #[.slice none 0 0, .slice none 0 0, .string ⟨#[]⟩, .string ⟨#[]⟩], []⟩).memory Tryz.f7.params.toList Rows.outboxRecoversSpec.vars false #[.slice none 0 0, .slice none 0 0, .string ⟨#[]⟩, .string ⟨#[]⟩].toList 8).map (fun x => (x.1, x.2.1)) =
      some ([.nil, .nil, .lit (.string []), .lit (.string [])], []) := by kernel_rfl
  obtain ⟨⟨x1, x2, x3⟩, hx, hx1⟩ := Option.map_eq_some_iff.1 hw
  simp only [Prod.mk.injEq] at hx1
  obtain ⟨rfl, rfl⟩ := hx1
  exact OpenSpec.preRow_of_cond 8 hx (by kernel_rfl) (fun k hk => by cases hk; kernel_rfl) (by kernel_rfl) (Aav os _)
theorem lifted (os : Os) (started : os.Started) (H : Type) (enc : TypeId × Value → H) (F : Stop.Interp) :
    ReturnsInHanded {} Tryz.checked os 7 .any ((Rows.OpenSpec.upto Rows.outboxRecoversSpec).preRow enc Tryz.prog Tryz.f7 Rows.outboxRecoversUptoRow.domain false Rows.outboxRecoversUptoRow.laid) (((Rows.OpenSpec.upto Rows.outboxRecoversSpec).at F).post enc Tryz.prog Tryz.f7 false true false false) := by
  refine returnsInHanded_of_row (C := Tryz.checked) (s := (Rows.OpenSpec.upto Rows.outboxRecoversSpec)) own started (by kernel_rfl) Tryz.func7
    (witness_row_atRef (enc := enc) (C := Tryz.checked) false (Lc os) #[.slice none 0 0, .slice none 0 0, .string ⟨#[]⟩, .string ⟨#[]⟩] rfl (by kernel_rfl) (by kernel_rfl) (by kernel_rfl) (witness_row os enc)) ?_
  intro W base args ds gs before hval hW _ hk hz hL _ _
  exact contract H enc W base args ds gs before hval hW hk hz hL
theorem said : Rows.OutboxRecoversUptoSaid :=
  OpenClaim.holds_of_cond 7 Tryz.f7 rfl rfl rfl rfl rfl rfl rfl ⟨rfl, rfl, rfl, rfl, rfl⟩ rfl rfl rfl rfl rfl (by kernel_rfl) Tryz.func7 (by kernel_rfl)
    (of_decide_eq_true (by kernel_rfl)) (by unfold Func.isWrapper; first | (rw [if_pos (by decide +kernel)]; kernel_rfl) | (rw [if_neg (by decide +kernel)]; exact ⟨rfl, rfl⟩))
    (fun os started H enc _ F => by rw [OpenClaim.pre_eq_preRow]; exact lifted os started H enc F)
theorem plain (f : FuncId) (fn : Func) (hf : Tryz.pinned.checked.prog.funcNamed "faas/faaslaw47.OutboxRecovers" = some f) (hfn : Tryz.pinned.checked.prog.funcs[f]? = some fn) :
    true = Tryz.pinned.checked.prog.looks [] ∧ ∀ (j : Nat) t, fn.params[j]? = some t → Tryz.pinned.checked.prog.wantsStandIn t = false := by
  obtain rfl : f = 7 := Option.some.inj ((show Tryz.prog.funcNamed "faas/faaslaw47.OutboxRecovers" = some 7 by kernel_rfl).symm.trans hf) |>.symm
  obtain rfl : fn = Tryz.f7 := (Option.some.inj (Tryz.func7.symm.trans hfn)).symm
  refine ⟨by kernel_rfl, fun j t ht => ?_⟩
  rw [Tryz.params7] at ht
  have hm := Array.mem_of_getElem? ht
  have hall : ∀ t ∈ (#[22, 69, 9, 9] : Array TypeId), Tryz.prog.wantsStandIn t = false := by
    intro t ht
    have := List.all_eq_true.1 (show ([22, 69, 9, 9] : List TypeId).all (fun t => !Tryz.prog.wantsStandIn t) = true by kernel_rfl) t (by simpa using ht)
    simpa using this
  exact hall t hm
theorem card : Rows.OutboxRecoversUptoCardSaid :=
  Claim7.holds_tied_plain_at .later [] _ _ _ _ said (fun _ h => by cases h) (by kernel_rfl) (fun _ h => by cases h) outboxRecoversUpto_row_tie rfl ⟨rfl, rfl⟩ (by kernel_rfl) rfl plain (by kernel_rfl)
end Go.Proofs.YtfobhhegpkinaaaGreatDoor.lawOutboxRecovers
namespace Go.Proofs.YtfobhhegpkinaaaGreatDoor
theorem outboxRecovers_card : Rows.OutboxRecoversUptoCardSaid := lawOutboxRecovers.card
end Go.Proofs.YtfobhhegpkinaaaGreatDoor
#print axioms Go.Proofs.YtfobhhegpkinaaaGreatDoor.outboxRecovers_card
