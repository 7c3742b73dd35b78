/-
  The law OutboxTexts holds of the given program for every input of the bulk that the second form names.
-/
import Derived.Test.YtfobhhegpkinaaaGreatDoorOT6
namespace Go.Proofs.YtfobhhegpkinaaaGreatDoor.lawOutboxTexts
open Go Go.Proofs.YtfobhhegpkinaaaGreatDoor.Q Go.ChangeShapes Go.WideShapes Go.ChangeAt Go.RowKit
open Go.ChangeMaps (open_string)
set_option linter.unusedVariables false
set_option linter.unusedSimpArgs false
set_option maxRecDepth 100000
theorem opn9 : EI Tryz.prog 9 eS Mw := EI.str Tryz.underlying9 (fun _ => rfl)
theorem opn3 : EI Tryz.prog 3 Ts (BF .i64) := EI.int Tryz.underlying3 (fun _ => rfl)
theorem opn81 : EI Tryz.prog 81 Ts (BF .i64) := EI.int Tryz.underlying81 (fun _ => rfl)
-- struct Ac
theorem opn83 : EI Tryz.prog 83 Ab W7 := fun h hB => by
  obtain ⟨xs, k, _, hxe, hlen, hxl, hf⟩ := DataW.trod_struct Tryz.underlying83 h
  rw [hxe] at hB
  have hxl : xs.length = 4 := hxl
  have ct : Tryz.prog.cellsOf 83 = 4 := by kernel_rfl
  rw [ct] at hlen
  have g0 : DataW.trod _ _ _ _ _ _ _ 81 ((List.drop 0 _).take (Tryz.prog.cellsOf 81)) = _ := hf 0 _ rfl
  have c0 : Tryz.prog.cellsOf 81 = 1 := by kernel_rfl
  rw [c0, List.getElem?_eq_getElem (by omega)] at g0
  obtain ⟨y0, o0, r0⟩ := opn81 g0 (Dk (by omega) hB)
  have g1 : DataW.trod _ _ _ _ _ _ _ 3 ((List.drop 1 _).take (Tryz.prog.cellsOf 3)) = _ := hf 1 _ rfl
  have c1 : Tryz.prog.cellsOf 3 = 1 := by kernel_rfl
  rw [c1, List.getElem?_eq_getElem (by omega)] at g1
  obtain ⟨y1, o1, r1⟩ := opn3 g1 (Dk (by omega) hB)
  have g2 : DataW.trod _ _ _ _ _ _ _ 9 ((List.drop 2 _).take (Tryz.prog.cellsOf 9)) = _ := hf 2 _ rfl
  have c2 : Tryz.prog.cellsOf 9 = 1 := by kernel_rfl
  rw [c2, List.getElem?_eq_getElem (by omega)] at g2
  obtain ⟨y2, o2, r2⟩ := opn9 g2 (Dk (by omega) hB)
  have g3 : DataW.trod _ _ _ _ _ _ _ 3 ((List.drop 3 _).take (Tryz.prog.cellsOf 3)) = _ := hf 3 _ rfl
  have c3 : Tryz.prog.cellsOf 3 = 1 := by kernel_rfl
  rw [c3, List.getElem?_eq_getElem (by omega)] at g3
  obtain ⟨y3, o3, r3⟩ := opn3 g3 (Dk (by omega) hB)
  refine ⟨⟨y0, y1, y2, y3⟩, by simp only [W7, o0, o1, o2, o3, Bool.and_self], ?_⟩
  exact (D6 r0 rfl (D6 r1 rfl (D6 r2 rfl (D6 r3 rfl (Ql hlen)))))
theorem opn31 : EI Tryz.prog 31 (fun ys : (List Ac) => [AY 4 (ys.map Ab)]) (fun ys : (List Ac) => ys.all W7 && decide (ys.length ≤ 1048576)) := EI.slice Tryz.underlying31 (by kernel_rfl) (by decide) opn83 BG (fun _ => rfl)
theorem opn63 : EI Tryz.prog 63 Ts (BF .i64) := EI.int Tryz.underlying63 (fun _ => rfl)
-- struct Ar
theorem opn65 : EI Tryz.prog 65 Ah Ys := fun h hB => by
  obtain ⟨xs, k, _, hxe, hlen, hxl, hf⟩ := DataW.trod_struct Tryz.underlying65 h
  rw [hxe] at hB
  have hxl : xs.length = 4 := hxl
  have ct : Tryz.prog.cellsOf 65 = 4 := by kernel_rfl
  rw [ct] at hlen
  have g0 : DataW.trod _ _ _ _ _ _ _ 63 ((List.drop 0 _).take (Tryz.prog.cellsOf 63)) = _ := hf 0 _ rfl
  have c0 : Tryz.prog.cellsOf 63 = 1 := by kernel_rfl
  rw [c0, List.getElem?_eq_getElem (by omega)] at g0
  obtain ⟨y0, o0, r0⟩ := opn63 g0 (Dk (by omega) hB)
  have g1 : DataW.trod _ _ _ _ _ _ _ 9 ((List.drop 1 _).take (Tryz.prog.cellsOf 9)) = _ := hf 1 _ rfl
  have c1 : Tryz.prog.cellsOf 9 = 1 := by kernel_rfl
  rw [c1, List.getElem?_eq_getElem (by omega)] at g1
  obtain ⟨y1, o1, r1⟩ := opn9 g1 (Dk (by omega) hB)
  have g2 : DataW.trod _ _ _ _ _ _ _ 31 ((List.drop 2 _).take (Tryz.prog.cellsOf 31)) = _ := hf 2 _ rfl
  have c2 : Tryz.prog.cellsOf 31 = 1 := by kernel_rfl
  rw [c2, List.getElem?_eq_getElem (by omega)] at g2
  obtain ⟨y2, o2, r2⟩ := opn31 g2 (Dk (by omega) hB)
  have g3 : DataW.trod _ _ _ _ _ _ _ 3 ((List.drop 3 _).take (Tryz.prog.cellsOf 3)) = _ := hf 3 _ rfl
  have c3 : Tryz.prog.cellsOf 3 = 1 := by kernel_rfl
  rw [c3, List.getElem?_eq_getElem (by omega)] at g3
  obtain ⟨y3, o3, r3⟩ := opn3 g3 (Dk (by omega) hB)
  refine ⟨⟨y0, y1, y2, y3⟩, by simp only [Ys, o0, o1, o2, o3, Bool.and_self], ?_⟩
  exact (D6 r0 rfl (D6 r1 rfl (D6 r2 rfl (D6 r3 rfl (Ql hlen)))))
theorem opn32 : EI Tryz.prog 32 (fun ys : (List Ar) => [AY 4 (ys.map Ah)]) (fun ys : (List Ar) => ys.all Ys && decide (ys.length ≤ 1048576)) := EI.slice Tryz.underlying32 (by kernel_rfl) (by decide) opn65 D3 (fun _ => rfl)
-- struct AS
theorem opn34 : EI Tryz.prog 34 AV Z1 := fun h hB => by
  obtain ⟨xs, k, _, hxe, hlen, hxl, hf⟩ := DataW.trod_struct Tryz.underlying34 h
  rw [hxe] at hB
  have hxl : xs.length = 6 := hxl
  have ct : Tryz.prog.cellsOf 34 = 6 := by kernel_rfl
  rw [ct] at hlen
  have g0 : DataW.trod _ _ _ _ _ _ _ 9 ((List.drop 0 _).take (Tryz.prog.cellsOf 9)) = _ := hf 0 _ rfl
  have c0 : Tryz.prog.cellsOf 9 = 1 := by kernel_rfl
  rw [c0, List.getElem?_eq_getElem (by omega)] at g0
  obtain ⟨y0, o0, r0⟩ := opn9 g0 (Dk (by omega) hB)
  have g1 : DataW.trod _ _ _ _ _ _ _ 9 ((List.drop 1 _).take (Tryz.prog.cellsOf 9)) = _ := hf 1 _ rfl
  have c1 : Tryz.prog.cellsOf 9 = 1 := by kernel_rfl
  rw [c1, List.getElem?_eq_getElem (by omega)] at g1
  obtain ⟨y1, o1, r1⟩ := opn9 g1 (Dk (by omega) hB)
  have g2 : DataW.trod _ _ _ _ _ _ _ 3 ((List.drop 2 _).take (Tryz.prog.cellsOf 3)) = _ := hf 2 _ rfl
  have c2 : Tryz.prog.cellsOf 3 = 1 := by kernel_rfl
  rw [c2, List.getElem?_eq_getElem (by omega)] at g2
  obtain ⟨y2, o2, r2⟩ := opn3 g2 (Dk (by omega) hB)
  have g3 : DataW.trod _ _ _ _ _ _ _ 31 ((List.drop 3 _).take (Tryz.prog.cellsOf 31)) = _ := hf 3 _ rfl
  have c3 : Tryz.prog.cellsOf 31 = 1 := by kernel_rfl
  rw [c3, List.getElem?_eq_getElem (by omega)] at g3
  obtain ⟨y3, o3, r3⟩ := opn31 g3 (Dk (by omega) hB)
  have g4 : DataW.trod _ _ _ _ _ _ _ 32 ((List.drop 4 _).take (Tryz.prog.cellsOf 32)) = _ := hf 4 _ rfl
  have c4 : Tryz.prog.cellsOf 32 = 1 := by kernel_rfl
  rw [c4, List.getElem?_eq_getElem (by omega)] at g4
  obtain ⟨y4, o4, r4⟩ := opn32 g4 (Dk (by omega) hB)
  have g5 : DataW.trod _ _ _ _ _ _ _ 3 ((List.drop 5 _).take (Tryz.prog.cellsOf 3)) = _ := hf 5 _ rfl
  have c5 : Tryz.prog.cellsOf 3 = 1 := by kernel_rfl
  rw [c5, List.getElem?_eq_getElem (by omega)] at g5
  obtain ⟨y5, o5, r5⟩ := opn3 g5 (Dk (by omega) hB)
  refine ⟨⟨y0, y1, y2, y3, y4, y5⟩, by simp only [Z1, o0, o1, o2, o3, o4, o5, Bool.and_self], ?_⟩
  exact (D6 r0 rfl (D6 r1 rfl (D6 r2 rfl (D6 r3 rfl (D6 r4 rfl (D6 r5 rfl (Ql hlen)))))))
theorem contract (H : Type) (enc : TypeId × Value → H) (W : World) (base : Nat) (args : Array Value) (ds gs : List (DataW H)) (before : List MemPlace)
    (hval : ∀ (j : Nat) t v, Tryz.f4.params[j]? = some t → args[j]? = some v → Value.okWide Tryz.prog W .any base t v)
    (hW : DataW.Whole enc Tryz.prog Tryz.f4.params.toList Rows.outboxTextsSpec.vars false W args.toList ds gs before)
    (hk : ∀ k, ((Rows.OpenSpec.upto Rows.outboxTextsSpec)).cond = some k → k H (ds ++ gs) = true)
    (hz : (DataW.weightsEach Tryz.prog (Tryz.f4.params.toList ++ []) (ds ++ gs)).all (· ≤ reachBytes) = true) (hL : laidMet Tryz.prog O5 W) :
    Calls Tryz.prog 4 args W fun e W' => ∃ v, e = .returned v ∧ Rows.outboxTextsSpec.post enc Tryz.prog Tryz.f4 false true false false W args v W' := by
  have hE := ZM hL
  have hW' := hW
  obtain ⟨p, q, hA0, hV, hbf, hfz, hnd⟩ := hW
  have hA : DataW.TrodAll enc Tryz.prog W 0 (fun _ => true) true Tryz.f4.params.toList args.toList ds p := hA0
  rw [Tryz.params4] at hA hval hz
  obtain ⟨rfl, rfl⟩ := trodVars_none hV
  obtain ⟨v0, vs0, d0, ds0, p0, q0, hargs, hd0, hq0, h0, r0⟩ := trodAll_cons hA
  obtain ⟨v1, vs1, d1, ds1, p1, q1, hv1, hd1, hq1, h1, r1⟩ := trodAll_cons r0
  obtain ⟨hvn, hdn, hqn⟩ := trodAll_nil r1
  obtain rfl : args = #[v0, v1] := by cases args; simp_all
  obtain rfl : ds = [d0, d1] := by simp_all
  have hB : Rows.uptoBulkAll [d0, d1] ≤ 1048576 := of_decide_eq_true (hk _ rfl)
  have hB0 : Rows.uptoBulk d0 ≤ 1048576 := Nat.le_trans (JU (by simp)) hB
  have hB1 : Rows.uptoBulk d1 ≤ 1048576 := Nat.le_trans (JU (by simp)) hB
  obtain ⟨a0, e0, _⟩ := okWide_struct Tryz.underlying34 (hval 0 34 v0 rfl rfl)
  obtain ⟨y0, oy0, hr0⟩ := EI.valAgg (opn34) (by rw [e0] at h0; exact h0) hB0
  rw [← e0] at hr0
  obtain ⟨a1, e1⟩ := okWide_string Tryz.underlying9 (hval 1 9 v1 rfl rfl)
  obtain ⟨y1, oy1, hr1⟩ := EI.val (opn9) (r := fun y => rS y) (fun _ => rfl) (by rw [e1]; rfl) h1 hB1
  obtain ⟨F, hF⟩ := law y0 y1 oy0 oy1
  refine (Vq F y0 y1 true hF W (ZW W) [v0, v1] ⟨hr0, hr1, trivial⟩ (Wj hE)).mono fun e W' ⟨R, v, Ho, Z', he, ⟨hR, _⟩, hp, hs⟩ => ?_
  subst hR
  obtain rfl : v = .bool true := hp
  exact ⟨_, he, UV Y6 (by kernel_rfl) rfl rfl Tu hW' rfl rfl rfl (Wk hs)⟩
theorem witness_row (os : Os) {H : Type} (enc : TypeId × Value → H) :
    (Rows.OpenSpec.upto Rows.outboxTextsSpec).preRow enc Tryz.prog Tryz.f4 Rows.outboxTextsUptoRow.domain false Rows.outboxTextsUptoRow.laid ((K2 os).forCall (fun _ _ => 0) ⟨#[], #[.agg #[(.string ⟨#[]⟩), (.string ⟨#[]⟩), (.int .i64 0), (.slice none 0 0), (.slice none 0 0), (.int .i64 0)], .string ⟨#[]⟩], []⟩).memory #[.agg #[(.string ⟨#[]⟩), (.string ⟨#[]⟩), (.int .i64 0), (.slice none 0 0), (.slice none 0 0), (.int .i64 0)], .string ⟨#[]⟩] := by
  have hw : (DataW.whole enc Tryz.prog ((K2 os).forCall (fun _ _ => 0) ⟨#[], #[.agg #[(.string ⟨#[]⟩), (.string ⟨#[]⟩), (.int .i64 0), (.slice none 0 0), (.slice none 0 0), (.int .i64 0)], .string ⟨#[]⟩], []⟩).memory Tryz.f4.params.toList Rows.outboxTextsSpec.vars false #[.agg #[(.string ⟨#[]⟩), (.string ⟨#[]⟩), (.int .i64 0), (.slice none 0 0), (.slice none 0 0), (.int .i64 0)], .string ⟨#[]⟩].toList 8).map (fun x => (x.1, x.2.1)) =
      some ([.agg [.lit (.string []), .lit (.string []), .lit (.int .i64 0), .nil, .nil, .lit (.int .i64 0)], .lit (.string [])], []) := by kernel_rfl
  obtain ⟨⟨x1, x2, x3⟩, hx, hx1⟩ := Option.map_eq_some_iff.1 hw
  simp only [Prod.mk.injEq] at hx1
  obtain ⟨rfl, rfl⟩ := hx1
  exact OpenSpec.preRow_of_cond 8 hx (by kernel_rfl) (fun k hk => by cases hk; kernel_rfl) (by kernel_rfl) (Xj os _)
theorem lifted (os : Os) (started : os.Started) (H : Type) (enc : TypeId × Value → H) (F : Stop.Interp) :
    ReturnsInHanded {} Tryz.checked os 4 .any ((Rows.OpenSpec.upto Rows.outboxTextsSpec).preRow enc Tryz.prog Tryz.f4 Rows.outboxTextsUptoRow.domain false Rows.outboxTextsUptoRow.laid) (((Rows.OpenSpec.upto Rows.outboxTextsSpec).at F).post enc Tryz.prog Tryz.f4 false true false false) := by
  refine returnsInHanded_of_row (C := Tryz.checked) (s := (Rows.OpenSpec.upto Rows.outboxTextsSpec)) own started (by kernel_rfl) Tryz.func4
    (witness_row_atRef (enc := enc) (C := Tryz.checked) false (K2 os) #[.agg #[(.string ⟨#[]⟩), (.string ⟨#[]⟩), (.int .i64 0), (.slice none 0 0), (.slice none 0 0), (.int .i64 0)], .string ⟨#[]⟩] rfl (by kernel_rfl) (by kernel_rfl) (by kernel_rfl) (witness_row os enc)) ?_
  intro W base args ds gs before hval hW _ hk hz hL _ _
  exact contract H enc W base args ds gs before hval hW hk hz hL
theorem said : Rows.OutboxTextsUptoSaid :=
  OpenClaim.holds_of_cond 4 Tryz.f4 rfl rfl rfl rfl rfl rfl rfl ⟨rfl, rfl, rfl, rfl, rfl⟩ rfl rfl rfl rfl rfl (by kernel_rfl) Tryz.func4 (by kernel_rfl)
    (of_decide_eq_true (by kernel_rfl)) (by unfold Func.isWrapper; first | (rw [if_pos (by decide +kernel)]; kernel_rfl) | (rw [if_neg (by decide +kernel)]; exact ⟨rfl, rfl⟩))
    (fun os started H enc _ F => by rw [OpenClaim.pre_eq_preRow]; exact lifted os started H enc F)
theorem plain (f : FuncId) (fn : Func) (hf : Tryz.pinned.checked.prog.funcNamed "faas/faaslaw47.OutboxTexts" = some f) (hfn : Tryz.pinned.checked.prog.funcs[f]? = some fn) :
    true = Tryz.pinned.checked.prog.looks [] ∧ ∀ (j : Nat) t, fn.params[j]? = some t → Tryz.pinned.checked.prog.wantsStandIn t = false := by
  obtain rfl : f = 4 := Option.some.inj ((show Tryz.prog.funcNamed "faas/faaslaw47.OutboxTexts" = some 4 by kernel_rfl).symm.trans hf) |>.symm
  obtain rfl : fn = Tryz.f4 := (Option.some.inj (Tryz.func4.symm.trans hfn)).symm
  refine ⟨by kernel_rfl, fun j t ht => ?_⟩
  rw [Tryz.params4] at ht
  have hm := Array.mem_of_getElem? ht
  have hall : ∀ t ∈ (#[34, 9] : Array TypeId), Tryz.prog.wantsStandIn t = false := by
    intro t ht
    have := List.all_eq_true.1 (show ([34, 9] : List TypeId).all (fun t => !Tryz.prog.wantsStandIn t) = true by kernel_rfl) t (by simpa using ht)
    simpa using this
  exact hall t hm
theorem card : Rows.OutboxTextsUptoCardSaid :=
  Claim7.holds_tied_plain_at .later [] _ _ _ _ said (fun _ h => by cases h) (by kernel_rfl) (fun _ h => by cases h) outboxTextsUpto_row_tie rfl ⟨rfl, rfl⟩ (by kernel_rfl) rfl plain (by kernel_rfl)
end Go.Proofs.YtfobhhegpkinaaaGreatDoor.lawOutboxTexts
namespace Go.Proofs.YtfobhhegpkinaaaGreatDoor
theorem outboxTexts_card : Rows.OutboxTextsUptoCardSaid := lawOutboxTexts.card
end Go.Proofs.YtfobhhegpkinaaaGreatDoor
#print axioms Go.Proofs.YtfobhhegpkinaaaGreatDoor.outboxTexts_card
