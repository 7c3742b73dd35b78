/-
  The law KvSnapshots holds of the given program for every input.
-/
import Derived.Test.YtjfnokmpfekniaaGreatDoorKS5
namespace Go.Proofs.YtjfnokmpfekniaaGreatDoor.lawKvSnapshots
open Go Go.Proofs.YtjfnokmpfekniaaGreatDoor.Q Go.ChangeShapes Go.WideShapes Go.ChangeAt Go.RowKit
open Go.ChangeMaps (open_string)
set_option linter.unusedVariables false
set_option linter.unusedSimpArgs false
set_option maxRecDepth 100000
theorem opn9 : NI Tryz.prog 9 eS okS := NI.str Tryz.underlying9 (fun _ => rfl)
theorem opn76 : NI Tryz.prog 76 Y1 (B9 .i64) := NI.int Tryz.underlying76 (fun _ => rfl)
theorem opn3 : NI Tryz.prog 3 Y1 (B9 .i64) := NI.int Tryz.underlying3 (fun _ => rfl)
-- struct Aa
theorem opn78 : NI Tryz.prog 78 Ab Xq := fun h => by
  obtain ⟨xs, k, _, _, hlen, hxl, hf⟩ := DataW.trod_struct Tryz.underlying78 h
  have hxl : xs.length = 4 := hxl
  have ct : Tryz.prog.cellsOf 78 = 4 := by kernel_rfl
  rw [ct] at hlen
  have g0 : DataW.trod _ _ _ _ _ _ _ 76 ((List.drop 0 _).take (Tryz.prog.cellsOf 76)) = _ := hf 0 _ rfl
  have c0 : Tryz.prog.cellsOf 76 = 1 := by kernel_rfl
  rw [c0, List.getElem?_eq_getElem (by omega)] at g0
  obtain ⟨y0, o0, r0⟩ := opn76 g0
  have g1 : DataW.trod _ _ _ _ _ _ _ 3 ((List.drop 1 _).take (Tryz.prog.cellsOf 3)) = _ := hf 1 _ rfl
  have c1 : Tryz.prog.cellsOf 3 = 1 := by kernel_rfl
  rw [c1, List.getElem?_eq_getElem (by omega)] at g1
  obtain ⟨y1, o1, r1⟩ := opn3 g1
  have g2 : DataW.trod _ _ _ _ _ _ _ 9 ((List.drop 2 _).take (Tryz.prog.cellsOf 9)) = _ := hf 2 _ rfl
  have c2 : Tryz.prog.cellsOf 9 = 1 := by kernel_rfl
  rw [c2, List.getElem?_eq_getElem (by omega)] at g2
  obtain ⟨y2, o2, r2⟩ := opn9 g2
  have g3 : DataW.trod _ _ _ _ _ _ _ 3 ((List.drop 3 _).take (Tryz.prog.cellsOf 3)) = _ := hf 3 _ rfl
  have c3 : Tryz.prog.cellsOf 3 = 1 := by kernel_rfl
  rw [c3, List.getElem?_eq_getElem (by omega)] at g3
  obtain ⟨y3, o3, r3⟩ := opn3 g3
  refine ⟨⟨y0, y1, y2, y3⟩, by simp only [Xq, o0, o1, o2, o3, Bool.and_self], ?_⟩
  exact (Hz r0 rfl (Hz r1 rfl (Hz r2 rfl (Hz r3 rfl (TC hlen)))))
theorem opn33 : NI Tryz.prog 33 (fun ys : (List Aa) => [AQ 4 (ys.map Ab)]) (fun ys : (List Aa) => ys.all Xq && decide (ys.length ≤ 9223372036854775807)) := NI.slice Tryz.underlying33 (by kernel_rfl) (by decide) opn78 Bz (fun _ => rfl)
-- struct Ae
theorem opn35 : NI Tryz.prog 35 Aq Vl := fun h => by
  obtain ⟨xs, k, _, _, hlen, hxl, hf⟩ := DataW.trod_struct Tryz.underlying35 h
  have hxl : xs.length = 3 := hxl
  have ct : Tryz.prog.cellsOf 35 = 3 := by kernel_rfl
  rw [ct] at hlen
  have g0 : DataW.trod _ _ _ _ _ _ _ 9 ((List.drop 0 _).take (Tryz.prog.cellsOf 9)) = _ := hf 0 _ rfl
  have c0 : Tryz.prog.cellsOf 9 = 1 := by kernel_rfl
  rw [c0, List.getElem?_eq_getElem (by omega)] at g0
  obtain ⟨y0, o0, r0⟩ := opn9 g0
  have g1 : DataW.trod _ _ _ _ _ _ _ 33 ((List.drop 1 _).take (Tryz.prog.cellsOf 33)) = _ := hf 1 _ rfl
  have c1 : Tryz.prog.cellsOf 33 = 1 := by kernel_rfl
  rw [c1, List.getElem?_eq_getElem (by omega)] at g1
  obtain ⟨y1, o1, r1⟩ := opn33 g1
  have g2 : DataW.trod _ _ _ _ _ _ _ 3 ((List.drop 2 _).take (Tryz.prog.cellsOf 3)) = _ := hf 2 _ rfl
  have c2 : Tryz.prog.cellsOf 3 = 1 := by kernel_rfl
  rw [c2, List.getElem?_eq_getElem (by omega)] at g2
  obtain ⟨y2, o2, r2⟩ := opn3 g2
  refine ⟨⟨y0, y1, y2⟩, by simp only [Vl, o0, o1, o2, Bool.and_self], ?_⟩
  exact (Hz r0 rfl (Hz r1 rfl (Hz r2 rfl (TC hlen))))
theorem opn39 : NI Tryz.prog 39 (fun ys : (List Ae) => [AQ 3 (ys.map Aq)]) (fun ys : (List Ae) => ys.all Vl && decide (ys.length ≤ 9223372036854775807)) := NI.slice Tryz.underlying39 (by kernel_rfl) (by decide) opn35 Ij (fun _ => rfl)
theorem contract (H : Type) (enc : TypeId × Value → H) (W : World) (base : Nat) (args : Array Value) (ds gs : List (DataW H)) (before : List MemPlace)
    (hval : ∀ (j : Nat) t v, Tryz.f5.params[j]? = some t → args[j]? = some v → Value.okWide Tryz.prog W .any base t v)
    (hW : DataW.Whole enc Tryz.prog Tryz.f5.params.toList Rows.kvSnapshotsSpec.vars false W args.toList ds gs before)
    (hz : (DataW.weightsEach Tryz.prog (Tryz.f5.params.toList ++ []) (ds ++ gs)).all (· ≤ reachBytes) = true) (hL : laidMet Tryz.prog O5 W) :
    Calls Tryz.prog 5 args W fun e W' => ∃ v, e = .returned v ∧ Rows.kvSnapshotsSpec.post enc Tryz.prog Tryz.f5 false true false false W args v W' := by
  have hE := Abn hL
  have hW' := hW
  obtain ⟨p, q, hA0, hV, hbf, hfz, hnd⟩ := hW
  have hA : DataW.TrodAll enc Tryz.prog W 0 (fun _ => true) true Tryz.f5.params.toList args.toList ds p := hA0
  rw [Tryz.params5] at hA hval hz
  obtain ⟨rfl, rfl⟩ := trodVars_none hV
  obtain ⟨v0, vs0, d0, ds0, p0, q0, hargs, hd0, hq0, h0, r0⟩ := trodAll_cons hA
  obtain ⟨hvn, hdn, hqn⟩ := trodAll_nil r0
  obtain rfl : args = #[v0] := by cases args; simp_all
  obtain rfl : ds = [d0] := by simp_all
  obtain ⟨a0, l0, c0, e0⟩ := okWide_slice Tryz.underlying39 (hval 0 39 v0 rfl rfl)
  obtain ⟨y0, oy0, hr0⟩ := NI.val (opn39) (r := fun y => AQ 3 (List.map Aq y)) (fun _ => rfl) (by rw [e0]; rfl) h0
  obtain ⟨F, hF⟩ := law y0 oy0
  refine (Q2 F y0 true hF W (ZW W) [v0] ⟨hr0, trivial⟩ (W9 hE)).mono fun e W' ⟨R, v, Ho, Z', he, ⟨hR, _⟩, hp, hs⟩ => ?_
  subst hR
  obtain rfl : v = .bool true := hp
  exact ⟨_, he, Vi ZK (by kernel_rfl) rfl rfl Tw hW' rfl rfl rfl (WA hs)⟩
theorem witness_row (os : Os) {H : Type} (enc : TypeId × Value → H) :
    (OpenSpec.ofChange Rows.kvSnapshotsSpec).preRow enc Tryz.prog Tryz.f5 Rows.kvSnapshotsRow.domain false Rows.kvSnapshotsRow.laid ((Ks os).forCall (fun _ _ => 0) ⟨#[], #[.slice none 0 0], []⟩).memory #[.slice none 0 0] := by
  have hw : (DataW.whole enc Tryz.prog ((Ks os).forCall (fun _ _ => 0) ⟨#[], #[.slice none 0 0], []⟩).memory Tryz.f5.params.toList Rows.kvSnapshotsSpec.vars false #[.slice none 0 0].toList 8).map (fun x => (x.1, x.2.1)) =
      some ([.nil], []) := by kernel_rfl
  obtain ⟨⟨x1, x2, x3⟩, hx, hx1⟩ := Option.map_eq_some_iff.1 hw
  simp only [Prod.mk.injEq] at hx1
  obtain ⟨rfl, rfl⟩ := hx1
  exact OpenSpec.preRow_of_cond 8 hx (by kernel_rfl) (fun k hk => by cases hk) (by kernel_rfl) (XI os _)
theorem lifted (os : Os) (started : os.Started) (H : Type) (enc : TypeId × Value → H) (F : Stop.Interp) :
    ReturnsInHanded {} Tryz.checked os 5 .any ((OpenSpec.ofChange Rows.kvSnapshotsSpec).preRow enc Tryz.prog Tryz.f5 Rows.kvSnapshotsRow.domain false Rows.kvSnapshotsRow.laid) (((OpenSpec.ofChange Rows.kvSnapshotsSpec).at F).post enc Tryz.prog Tryz.f5 false true false false) := by
  refine returnsInHanded_of_row (C := Tryz.checked) (s := (OpenSpec.ofChange Rows.kvSnapshotsSpec)) own started (by kernel_rfl) Tryz.func5
    (witness_row_atRef (enc := enc) (C := Tryz.checked) false (Ks os) #[.slice none 0 0] rfl (by kernel_rfl) (by kernel_rfl) (by kernel_rfl) (witness_row os enc)) ?_
  intro W base args ds gs before hval hW _ _ hz hL _ _
  exact contract H enc W base args ds gs before hval hW hz hL
theorem said : Rows.KvSnapshotsSaid :=
  OpenClaim.holds_of_cond 5 Tryz.f5 rfl rfl rfl rfl rfl rfl rfl ⟨rfl, rfl, rfl, rfl, rfl⟩ rfl rfl rfl rfl rfl (by kernel_rfl) Tryz.func5 (by kernel_rfl)
    (of_decide_eq_true (by kernel_rfl)) (by unfold Func.isWrapper; first | (rw [if_pos (by decide +kernel)]; kernel_rfl) | (rw [if_neg (by decide +kernel)]; exact ⟨rfl, rfl⟩))
    (fun os started H enc _ F => by rw [OpenClaim.pre_eq_preRow]; exact lifted os started H enc F)
theorem plain (f : FuncId) (fn : Func) (hf : Tryz.pinned.checked.prog.funcNamed "faas/faaslaw46.KvSnapshots" = some f) (hfn : Tryz.pinned.checked.prog.funcs[f]? = some fn) :
    true = Tryz.pinned.checked.prog.looks [] ∧ ∀ (j : Nat) t, fn.params[j]? = some t → Tryz.pinned.checked.prog.wantsStandIn t = false := by
  obtain rfl : f = 5 := Option.some.inj ((show Tryz.prog.funcNamed "faas/faaslaw46.KvSnapshots" = some 5 by kernel_rfl).symm.trans hf) |>.symm
  obtain rfl : fn = Tryz.f5 := (Option.some.inj (Tryz.func5.symm.trans hfn)).symm
  refine ⟨by kernel_rfl, fun j t ht => ?_⟩
  rw [Tryz.params5] at ht
  have hm := Array.mem_of_getElem? ht
  have hall : ∀ t ∈ (#[39] : Array TypeId), Tryz.prog.wantsStandIn t = false := by
    intro t ht
    have := List.all_eq_true.1 (show ([39] : List TypeId).all (fun t => !Tryz.prog.wantsStandIn t) = true by kernel_rfl) t (by simpa using ht)
    simpa using this
  exact hall t hm
theorem card : Rows.KvSnapshotsCardSaid :=
  Claim7.holds_tied_plain_at .later [] _ _ _ _ said (fun _ h => by cases h) (by kernel_rfl) (fun _ h => by cases h) kvSnapshots_row_tie rfl ⟨rfl, rfl⟩ (by kernel_rfl) rfl plain (by kernel_rfl)
end Go.Proofs.YtjfnokmpfekniaaGreatDoor.lawKvSnapshots
namespace Go.Proofs.YtjfnokmpfekniaaGreatDoor
theorem kvSnapshots_card : Rows.KvSnapshotsCardSaid := lawKvSnapshots.card
end Go.Proofs.YtjfnokmpfekniaaGreatDoor
#print axioms Go.Proofs.YtjfnokmpfekniaaGreatDoor.kvSnapshots_card
