/-
  The law KvReplays holds of the given program for every input.
-/
import Derived.Test.YtjfnokmpfekniaaGreatDoorKP5
namespace Go.Proofs.YtjfnokmpfekniaaGreatDoor.lawKvReplays
open Go Go.Proofs.YtjfnokmpfekniaaGreatDoor.Q Go.ChangeShapes Go.WideShapes Go.ChangeAt Go.RowKit
open Go.ChangeMaps (open_string)
set_option linter.unusedVariables false
set_option linter.unusedSimpArgs false
set_option maxRecDepth 100000
theorem opn9 : Lg Tryz.prog 9 eS YM := Lg.str Tryz.underlying9 (fun _ => rfl)
theorem opn4 : Lg Tryz.prog 4 eB (fun _ => true) := Lg.bool Tryz.underlying4 (fun _ => rfl)
theorem opn76 : Lg Tryz.prog 76 WP (B7 .i64) := Lg.int Tryz.underlying76 (fun _ => rfl)
theorem opn3 : Lg Tryz.prog 3 WP (B7 .i64) := Lg.int Tryz.underlying3 (fun _ => rfl)
-- struct Aa
theorem opn78 : Lg Tryz.prog 78 Ab VJ := fun h => by
  obtain ⟨xs, k, _, _, hlen, hxl, hf⟩ := DataW.trod_struct Tryz.underlying78 h
  have hxl : xs.length = 4 := hxl
  have ct : Tryz.prog.cellsOf 78 = 4 := by kernel_rfl
  rw [ct] at hlen
  have g0 : DataW.trod _ _ _ _ _ _ _ 76 ((List.drop 0 _).take (Tryz.prog.cellsOf 76)) = _ := hf 0 _ rfl
  have c0 : Tryz.prog.cellsOf 76 = 1 := by kernel_rfl
  rw [c0, List.getElem?_eq_getElem (by omega)] at g0
  obtain ⟨y0, o0, r0⟩ := opn76 g0
  have g1 : DataW.trod _ _ _ _ _ _ _ 3 ((List.drop 1 _).take (Tryz.prog.cellsOf 3)) = _ := hf 1 _ rfl
  have c1 : Tryz.prog.cellsOf 3 = 1 := by kernel_rfl
  rw [c1, List.getElem?_eq_getElem (by omega)] at g1
  obtain ⟨y1, o1, r1⟩ := opn3 g1
  have g2 : DataW.trod _ _ _ _ _ _ _ 9 ((List.drop 2 _).take (Tryz.prog.cellsOf 9)) = _ := hf 2 _ rfl
  have c2 : Tryz.prog.cellsOf 9 = 1 := by kernel_rfl
  rw [c2, List.getElem?_eq_getElem (by omega)] at g2
  obtain ⟨y2, o2, r2⟩ := opn9 g2
  have g3 : DataW.trod _ _ _ _ _ _ _ 3 ((List.drop 3 _).take (Tryz.prog.cellsOf 3)) = _ := hf 3 _ rfl
  have c3 : Tryz.prog.cellsOf 3 = 1 := by kernel_rfl
  rw [c3, List.getElem?_eq_getElem (by omega)] at g3
  obtain ⟨y3, o3, r3⟩ := opn3 g3
  refine ⟨⟨y0, y1, y2, y3⟩, by simp only [VJ, o0, o1, o2, o3, Bool.and_self], ?_⟩
  exact (ER r0 rfl (ER r1 rfl (ER r2 rfl (ER r3 rfl (Sy hlen)))))
theorem opn33 : Lg Tryz.prog 33 (fun ys : (List Aa) => [AU 4 (ys.map Ab)]) (fun ys : (List Aa) => ys.all VJ && decide (ys.length ≤ 9223372036854775807)) := Lg.slice Tryz.underlying33 (by kernel_rfl) (by decide) opn78 Bo (fun _ => rfl)
-- struct Ae
theorem opn50 : Lg Tryz.prog 50 Ai RG := fun h => by
  obtain ⟨xs, k, _, _, hlen, hxl, hf⟩ := DataW.trod_struct Tryz.underlying50 h
  have hxl : xs.length = 4 := hxl
  have ct : Tryz.prog.cellsOf 50 = 4 := by kernel_rfl
  rw [ct] at hlen
  have g0 : DataW.trod _ _ _ _ _ _ _ 9 ((List.drop 0 _).take (Tryz.prog.cellsOf 9)) = _ := hf 0 _ rfl
  have c0 : Tryz.prog.cellsOf 9 = 1 := by kernel_rfl
  rw [c0, List.getElem?_eq_getElem (by omega)] at g0
  obtain ⟨y0, o0, r0⟩ := opn9 g0
  have g1 : DataW.trod _ _ _ _ _ _ _ 4 ((List.drop 1 _).take (Tryz.prog.cellsOf 4)) = _ := hf 1 _ rfl
  have c1 : Tryz.prog.cellsOf 4 = 1 := by kernel_rfl
  rw [c1, List.getElem?_eq_getElem (by omega)] at g1
  obtain ⟨y1, o1, r1⟩ := opn4 g1
  have g2 : DataW.trod _ _ _ _ _ _ _ 33 ((List.drop 2 _).take (Tryz.prog.cellsOf 33)) = _ := hf 2 _ rfl
  have c2 : Tryz.prog.cellsOf 33 = 1 := by kernel_rfl
  rw [c2, List.getElem?_eq_getElem (by omega)] at g2
  obtain ⟨y2, o2, r2⟩ := opn33 g2
  have g3 : DataW.trod _ _ _ _ _ _ _ 3 ((List.drop 3 _).take (Tryz.prog.cellsOf 3)) = _ := hf 3 _ rfl
  have c3 : Tryz.prog.cellsOf 3 = 1 := by kernel_rfl
  rw [c3, List.getElem?_eq_getElem (by omega)] at g3
  obtain ⟨y3, o3, r3⟩ := opn3 g3
  refine ⟨⟨y0, y1, y2, y3⟩, by simp only [RG, o0, o1, o2, o3, Bool.and_self], ?_⟩
  exact (ER r0 rfl (ER r1 rfl (ER r2 rfl (ER r3 rfl (Sy hlen)))))
theorem opn31 : Lg Tryz.prog 31 (fun ys : (List Ae) => [AU 4 (ys.map Ai)]) (fun ys : (List Ae) => ys.all RG && decide (ys.length ≤ 9223372036854775807)) := Lg.slice Tryz.underlying31 (by kernel_rfl) (by decide) opn50 Ck (fun _ => rfl)
theorem opn22 : Lg Tryz.prog 22 (fun ys : (List (List Ae)) => [AU 1 (ys.map AS)]) (fun ys : (List (List Ae)) => ys.all (fun ys : (List Ae) => ys.all RG && decide (ys.length ≤ 9223372036854775807)) && decide (ys.length ≤ 9223372036854775807)) := Lg.slice Tryz.underlying22 (by kernel_rfl) (by decide) opn31 KY (fun _ => rfl)
theorem contract (H : Type) (enc : TypeId × Value → H) (W : World) (base : Nat) (args : Array Value) (ds gs : List (DataW H)) (before : List MemPlace)
    (hval : ∀ (j : Nat) t v, Tryz.f6.params[j]? = some t → args[j]? = some v → Value.okWide Tryz.prog W .any base t v)
    (hW : DataW.Whole enc Tryz.prog Tryz.f6.params.toList Rows.kvReplaysSpec.vars false W args.toList ds gs before)
    (hz : (DataW.weightsEach Tryz.prog (Tryz.f6.params.toList ++ []) (ds ++ gs)).all (· ≤ reachBytes) = true) (hL : laidMet Tryz.prog Nn W) :
    Calls Tryz.prog 6 args W fun e W' => ∃ v, e = .returned v ∧ Rows.kvReplaysSpec.post enc Tryz.prog Tryz.f6 false true false false W args v W' := by
  have hE := ZJ hL
  have hW' := hW
  obtain ⟨p, q, hA0, hV, hbf, hfz, hnd⟩ := hW
  have hA : DataW.TrodAll enc Tryz.prog W 0 (fun _ => true) true Tryz.f6.params.toList args.toList ds p := hA0
  rw [Tryz.params6] at hA hval hz
  obtain ⟨rfl, rfl⟩ := trodVars_none hV
  obtain ⟨v0, vs0, d0, ds0, p0, q0, hargs, hd0, hq0, h0, r0⟩ := trodAll_cons hA
  obtain ⟨hvn, hdn, hqn⟩ := trodAll_nil r0
  obtain rfl : args = #[v0] := by cases args; simp_all
  obtain rfl : ds = [d0] := by simp_all
  obtain ⟨a0, l0, c0, e0⟩ := okWide_slice Tryz.underlying22 (hval 0 22 v0 rfl rfl)
  obtain ⟨y0, oy0, hr0⟩ := Lg.val (opn22) (r := fun y => AU 1 (List.map AS y)) (fun _ => rfl) (by rw [e0]; rfl) h0
  obtain ⟨F, hF⟩ := law y0 oy0
  refine (RO F y0 true hF W (ZW W) [v0] ⟨hr0, trivial⟩ (Vp hE)).mono fun e W' ⟨R, v, Ho, Z', he, ⟨hR, _⟩, hp, hs⟩ => ?_
  subst hR
  obtain rfl : v = .bool true := hp
  exact ⟨_, he, TK Yj (by kernel_rfl) rfl rfl Sf hW' rfl rfl rfl (Vq hs)⟩
theorem witness_row (os : Os) {H : Type} (enc : TypeId × Value → H) :
    (OpenSpec.ofChange Rows.kvReplaysSpec).preRow enc Tryz.prog Tryz.f6 Rows.kvReplaysRow.domain false Rows.kvReplaysRow.laid ((Jn os).forCall (fun _ _ => 0) ⟨#[], #[.slice none 0 0], []⟩).memory #[.slice none 0 0] := by
  have hw : (DataW.whole enc Tryz.prog ((Jn os).forCall (fun _ _ => 0) ⟨#[], #[.slice none 0 0], []⟩).memory Tryz.f6.params.toList Rows.kvReplaysSpec.vars false #[.slice none 0 0].toList 8).map (fun x => (x.1, x.2.1)) =
      some ([.nil], []) := by kernel_rfl
  obtain ⟨⟨x1, x2, x3⟩, hx, hx1⟩ := Option.map_eq_some_iff.1 hw
  simp only [Prod.mk.injEq] at hx1
  obtain ⟨rfl, rfl⟩ := hx1
  exact OpenSpec.preRow_of_cond 8 hx (by kernel_rfl) (fun k hk => by cases hk) (by kernel_rfl) (Wh os _)
theorem lifted (os : Os) (started : os.Started) (H : Type) (enc : TypeId × Value → H) (F : Stop.Interp) :
    ReturnsInHanded {} Tryz.checked os 6 .any ((OpenSpec.ofChange Rows.kvReplaysSpec).preRow enc Tryz.prog Tryz.f6 Rows.kvReplaysRow.domain false Rows.kvReplaysRow.laid) (((OpenSpec.ofChange Rows.kvReplaysSpec).at F).post enc Tryz.prog Tryz.f6 false true false false) := by
  refine returnsInHanded_of_row (C := Tryz.checked) (s := (OpenSpec.ofChange Rows.kvReplaysSpec)) own started (by kernel_rfl) Tryz.func6
    (witness_row_atRef (enc := enc) (C := Tryz.checked) false (Jn os) #[.slice none 0 0] rfl (by kernel_rfl) (by kernel_rfl) (by kernel_rfl) (witness_row os enc)) ?_
  intro W base args ds gs before hval hW _ _ hz hL _ _
  exact contract H enc W base args ds gs before hval hW hz hL
theorem said : Rows.KvReplaysSaid :=
  OpenClaim.holds_of_cond 6 Tryz.f6 rfl rfl rfl rfl rfl rfl rfl ⟨rfl, rfl, rfl, rfl, rfl⟩ rfl rfl rfl rfl rfl (by kernel_rfl) Tryz.func6 (by kernel_rfl)
    (of_decide_eq_true (by kernel_rfl)) (by unfold Func.isWrapper; first | (rw [if_pos (by decide +kernel)]; kernel_rfl) | (rw [if_neg (by decide +kernel)]; exact ⟨rfl, rfl⟩))
    (fun os started H enc _ F => by rw [OpenClaim.pre_eq_preRow]; exact lifted os started H enc F)
theorem plain (f : FuncId) (fn : Func) (hf : Tryz.pinned.checked.prog.funcNamed "faas/faaslaw46.KvReplays" = some f) (hfn : Tryz.pinned.checked.prog.funcs[f]? = some fn) :
    true = Tryz.pinned.checked.prog.looks [] ∧ ∀ (j : Nat) t, fn.params[j]? = some t → Tryz.pinned.checked.prog.wantsStandIn t = false := by
  obtain rfl : f = 6 := Option.some.inj ((show Tryz.prog.funcNamed "faas/faaslaw46.KvReplays" = some 6 by kernel_rfl).symm.trans hf) |>.symm
  obtain rfl : fn = Tryz.f6 := (Option.some.inj (Tryz.func6.symm.trans hfn)).symm
  refine ⟨by kernel_rfl, fun j t ht => ?_⟩
  rw [Tryz.params6] at ht
  have hm := Array.mem_of_getElem? ht
  have hall : ∀ t ∈ (#[22] : Array TypeId), Tryz.prog.wantsStandIn t = false := by
    intro t ht
    have := List.all_eq_true.1 (show ([22] : List TypeId).all (fun t => !Tryz.prog.wantsStandIn t) = true by kernel_rfl) t (by simpa using ht)
    simpa using this
  exact hall t hm
theorem card : Rows.KvReplaysCardSaid :=
  Claim7.holds_tied_plain_at .later [] _ _ _ _ said (fun _ h => by cases h) (by kernel_rfl) (fun _ h => by cases h) kvReplays_row_tie rfl ⟨rfl, rfl⟩ (by kernel_rfl) rfl plain (by kernel_rfl)
end Go.Proofs.YtjfnokmpfekniaaGreatDoor.lawKvReplays
namespace Go.Proofs.YtjfnokmpfekniaaGreatDoor
theorem kvReplays_card : Rows.KvReplaysCardSaid := lawKvReplays.card
end Go.Proofs.YtjfnokmpfekniaaGreatDoor
#print axioms Go.Proofs.YtjfnokmpfekniaaGreatDoor.kvReplays_card
