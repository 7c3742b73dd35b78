/-
  The Wf QueueKeeps holds of the given program for every input.
-/
import Derived.Test.YthbbedliepkakaaGreatDoorQK5
namespace Go.Proofs.YthbbedliepkakaaGreatDoor.lawQueueKeeps
open Go Go.Proofs.YthbbedliepkakaaGreatDoor.Q Go.ChangeShapes Go.WideShapes Go.ChangeAt Go.RowKit
open Go.ChangeMaps (open_string)
set_option linter.unusedVariables false
set_option linter.unusedSimpArgs false
set_option maxRecDepth 100000
theorem opn3 : Im Tryz.prog 3 S7 (B7 .i64) := Im.int Tryz.underlying3 (fun _ => rfl)
-- struct AG
theorem opn23 : Im Tryz.prog 23 Ao UA := fun h => by
  obtain ⟨xs, k, _, _, hlen, hxl, hf⟩ := DataW.trod_struct Tryz.underlying23 h
  have hxl : xs.length = 2 := hxl
  have ct : Tryz.prog.cellsOf 23 = 2 := by kernel_rfl
  rw [ct] at hlen
  have g0 : DataW.trod _ _ _ _ _ _ _ 3 ((List.drop 0 _).take (Tryz.prog.cellsOf 3)) = _ := hf 0 _ rfl
  have c0 : Tryz.prog.cellsOf 3 = 1 := by kernel_rfl
  rw [c0, List.getElem?_eq_getElem (by omega)] at g0
  obtain ⟨y0, o0, r0⟩ := opn3 g0
  have g1 : DataW.trod _ _ _ _ _ _ _ 3 ((List.drop 1 _).take (Tryz.prog.cellsOf 3)) = _ := hf 1 _ rfl
  have c1 : Tryz.prog.cellsOf 3 = 1 := by kernel_rfl
  rw [c1, List.getElem?_eq_getElem (by omega)] at g1
  obtain ⟨y1, o1, r1⟩ := opn3 g1
  refine ⟨⟨y0, y1⟩, by simp only [UA, o0, o1, Bool.and_self], ?_⟩
  exact (BK r0 rfl (BK r1 rfl (Kh hlen)))
theorem opn9 : Im Tryz.prog 9 eS RY := Im.str Tryz.underlying9 (fun _ => rfl)
theorem opn93 : Im Tryz.prog 93 S7 (B7 .i64) := Im.int Tryz.underlying93 (fun _ => rfl)
-- struct Al
theorem opn95 : Im Tryz.prog 95 An Sb := fun h => by
  obtain ⟨xs, k, _, _, hlen, hxl, hf⟩ := DataW.trod_struct Tryz.underlying95 h
  have hxl : xs.length = 4 := hxl
  have ct : Tryz.prog.cellsOf 95 = 4 := by kernel_rfl
  rw [ct] at hlen
  have g0 : DataW.trod _ _ _ _ _ _ _ 93 ((List.drop 0 _).take (Tryz.prog.cellsOf 93)) = _ := hf 0 _ rfl
  have c0 : Tryz.prog.cellsOf 93 = 1 := by kernel_rfl
  rw [c0, List.getElem?_eq_getElem (by omega)] at g0
  obtain ⟨y0, o0, r0⟩ := opn93 g0
  have g1 : DataW.trod _ _ _ _ _ _ _ 3 ((List.drop 1 _).take (Tryz.prog.cellsOf 3)) = _ := hf 1 _ rfl
  have c1 : Tryz.prog.cellsOf 3 = 1 := by kernel_rfl
  rw [c1, List.getElem?_eq_getElem (by omega)] at g1
  obtain ⟨y1, o1, r1⟩ := opn3 g1
  have g2 : DataW.trod _ _ _ _ _ _ _ 9 ((List.drop 2 _).take (Tryz.prog.cellsOf 9)) = _ := hf 2 _ rfl
  have c2 : Tryz.prog.cellsOf 9 = 1 := by kernel_rfl
  rw [c2, List.getElem?_eq_getElem (by omega)] at g2
  obtain ⟨y2, o2, r2⟩ := opn9 g2
  have g3 : DataW.trod _ _ _ _ _ _ _ 3 ((List.drop 3 _).take (Tryz.prog.cellsOf 3)) = _ := hf 3 _ rfl
  have c3 : Tryz.prog.cellsOf 3 = 1 := by kernel_rfl
  rw [c3, List.getElem?_eq_getElem (by omega)] at g3
  obtain ⟨y3, o3, r3⟩ := opn3 g3
  refine ⟨⟨y0, y1, y2, y3⟩, by simp only [Sb, o0, o1, o2, o3, Bool.and_self], ?_⟩
  exact (BK r0 rfl (BK r1 rfl (BK r2 rfl (BK r3 rfl (Kh hlen)))))
theorem opn31 : Im Tryz.prog 31 (fun ys : (List Al) => [BE 4 (ys.map An)]) (fun ys : (List Al) => ys.all Sb && decide (ys.length ≤ 9223372036854775807)) := Im.slice Tryz.underlying31 (by kernel_rfl) (by decide) opn95 Ec (fun _ => rfl)
-- struct Ap
theorem opn33 : Im Tryz.prog 33 Af Tw := fun h => by
  obtain ⟨xs, k, _, _, hlen, hxl, hf⟩ := DataW.trod_struct Tryz.underlying33 h
  have hxl : xs.length = 7 := hxl
  have ct : Tryz.prog.cellsOf 33 = 7 := by kernel_rfl
  rw [ct] at hlen
  have g0 : DataW.trod _ _ _ _ _ _ _ 9 ((List.drop 0 _).take (Tryz.prog.cellsOf 9)) = _ := hf 0 _ rfl
  have c0 : Tryz.prog.cellsOf 9 = 1 := by kernel_rfl
  rw [c0, List.getElem?_eq_getElem (by omega)] at g0
  obtain ⟨y0, o0, r0⟩ := opn9 g0
  have g1 : DataW.trod _ _ _ _ _ _ _ 9 ((List.drop 1 _).take (Tryz.prog.cellsOf 9)) = _ := hf 1 _ rfl
  have c1 : Tryz.prog.cellsOf 9 = 1 := by kernel_rfl
  rw [c1, List.getElem?_eq_getElem (by omega)] at g1
  obtain ⟨y1, o1, r1⟩ := opn9 g1
  have g2 : DataW.trod _ _ _ _ _ _ _ 9 ((List.drop 2 _).take (Tryz.prog.cellsOf 9)) = _ := hf 2 _ rfl
  have c2 : Tryz.prog.cellsOf 9 = 1 := by kernel_rfl
  rw [c2, List.getElem?_eq_getElem (by omega)] at g2
  obtain ⟨y2, o2, r2⟩ := opn9 g2
  have g3 : DataW.trod _ _ _ _ _ _ _ 9 ((List.drop 3 _).take (Tryz.prog.cellsOf 9)) = _ := hf 3 _ rfl
  have c3 : Tryz.prog.cellsOf 9 = 1 := by kernel_rfl
  rw [c3, List.getElem?_eq_getElem (by omega)] at g3
  obtain ⟨y3, o3, r3⟩ := opn9 g3
  have g4 : DataW.trod _ _ _ _ _ _ _ 3 ((List.drop 4 _).take (Tryz.prog.cellsOf 3)) = _ := hf 4 _ rfl
  have c4 : Tryz.prog.cellsOf 3 = 1 := by kernel_rfl
  rw [c4, List.getElem?_eq_getElem (by omega)] at g4
  obtain ⟨y4, o4, r4⟩ := opn3 g4
  have g5 : DataW.trod _ _ _ _ _ _ _ 9 ((List.drop 5 _).take (Tryz.prog.cellsOf 9)) = _ := hf 5 _ rfl
  have c5 : Tryz.prog.cellsOf 9 = 1 := by kernel_rfl
  rw [c5, List.getElem?_eq_getElem (by omega)] at g5
  obtain ⟨y5, o5, r5⟩ := opn9 g5
  have g6 : DataW.trod _ _ _ _ _ _ _ 31 ((List.drop 6 _).take (Tryz.prog.cellsOf 31)) = _ := hf 6 _ rfl
  have c6 : Tryz.prog.cellsOf 31 = 1 := by kernel_rfl
  rw [c6, List.getElem?_eq_getElem (by omega)] at g6
  obtain ⟨y6, o6, r6⟩ := opn31 g6
  refine ⟨⟨y0, y1, y2, y3, y4, y5, y6⟩, by simp only [Tw, o0, o1, o2, o3, o4, o5, o6, Bool.and_self], ?_⟩
  exact (BK r0 rfl (BK r1 rfl (BK r2 rfl (BK r3 rfl (BK r4 rfl (BK r5 rfl (BK r6 rfl (Kh hlen))))))))
-- struct AT
theorem opn35 : Im Tryz.prog 35 A4 Q8 := fun h => by
  obtain ⟨xs, k, _, _, hlen, hxl, hf⟩ := DataW.trod_struct Tryz.underlying35 h
  have hxl : xs.length = 5 := hxl
  have ct : Tryz.prog.cellsOf 35 = 11 := by kernel_rfl
  rw [ct] at hlen
  have g0 : DataW.trod _ _ _ _ _ _ _ 3 ((List.drop 0 _).take (Tryz.prog.cellsOf 3)) = _ := hf 0 _ rfl
  have c0 : Tryz.prog.cellsOf 3 = 1 := by kernel_rfl
  rw [c0, List.getElem?_eq_getElem (by omega)] at g0
  obtain ⟨y0, o0, r0⟩ := opn3 g0
  have g1 : DataW.trod _ _ _ _ _ _ _ 3 ((List.drop 1 _).take (Tryz.prog.cellsOf 3)) = _ := hf 1 _ rfl
  have c1 : Tryz.prog.cellsOf 3 = 1 := by kernel_rfl
  rw [c1, List.getElem?_eq_getElem (by omega)] at g1
  obtain ⟨y1, o1, r1⟩ := opn3 g1
  have g2 : DataW.trod _ _ _ _ _ _ _ 3 ((List.drop 2 _).take (Tryz.prog.cellsOf 3)) = _ := hf 2 _ rfl
  have c2 : Tryz.prog.cellsOf 3 = 1 := by kernel_rfl
  rw [c2, List.getElem?_eq_getElem (by omega)] at g2
  obtain ⟨y2, o2, r2⟩ := opn3 g2
  have g3 : DataW.trod _ _ _ _ _ _ _ 33 ((List.drop 3 _).take (Tryz.prog.cellsOf 33)) = _ := hf 3 _ rfl
  have c3 : Tryz.prog.cellsOf 33 = 7 := by kernel_rfl
  rw [c3, List.getElem?_eq_getElem (by omega)] at g3
  obtain ⟨y3, o3, r3⟩ := opn33 g3
  have g4 : DataW.trod _ _ _ _ _ _ _ 9 ((List.drop 10 _).take (Tryz.prog.cellsOf 9)) = _ := hf 4 _ rfl
  have c4 : Tryz.prog.cellsOf 9 = 1 := by kernel_rfl
  rw [c4, List.getElem?_eq_getElem (by omega)] at g4
  obtain ⟨y4, o4, r4⟩ := opn9 g4
  refine ⟨⟨y0, y1, y2, y3, y4⟩, by simp only [Q8, o0, o1, o2, o3, o4, Bool.and_self], ?_⟩
  exact (BK r0 rfl (BK r1 rfl (BK r2 rfl (BK r3 rfl (BK r4 rfl (Kh hlen))))))
theorem opn24 : Im Tryz.prog 24 (fun ys : (List AT) => [BE 11 (ys.map A4)]) (fun ys : (List AT) => ys.all Q8 && decide (ys.length ≤ 9223372036854775807)) := Im.slice Tryz.underlying24 (by kernel_rfl) (by decide) opn35 IU (fun _ => rfl)
theorem contract (H : Type) (enc : TypeId × Value → H) (W : World) (base : Nat) (args : Array Value) (ds gs : List (DataW H)) (before : List MemPlace)
    (hval : ∀ (j : Nat) t v, Tryz.f3.params[j]? = some t → args[j]? = some v → Value.okWide Tryz.prog W .any base t v)
    (hW : DataW.Whole enc Tryz.prog Tryz.f3.params.toList Rows.queueKeepsSpec.vars false W args.toList ds gs before)
    (hz : (DataW.weightsEach Tryz.prog (Tryz.f3.params.toList ++ []) (ds ++ gs)).all (· ≤ reachBytes) = true) (hL : laidMet Tryz.prog KV W) :
    Calls Tryz.prog 3 args W fun e W' => ∃ v, e = .returned v ∧ Rows.queueKeepsSpec.post enc Tryz.prog Tryz.f3 false true false false W args v W' := by
  have hE := UU hL
  have hW' := hW
  obtain ⟨p, q, hA0, hV, hbf, hfz, hnd⟩ := hW
  have hA : DataW.TrodAll enc Tryz.prog W 0 (fun _ => true) true Tryz.f3.params.toList args.toList ds p := hA0
  rw [Tryz.params3] at hA hval hz
  obtain ⟨rfl, rfl⟩ := trodVars_none hV
  obtain ⟨v0, vs0, d0, ds0, p0, q0, hargs, hd0, hq0, h0, r0⟩ := trodAll_cons hA
  obtain ⟨v1, vs1, d1, ds1, p1, q1, hv1, hd1, hq1, h1, r1⟩ := trodAll_cons r0
  obtain ⟨v2, vs2, d2, ds2, p2, q2, hv2, hd2, hq2, h2, r2⟩ := trodAll_cons r1
  obtain ⟨hvn, hdn, hqn⟩ := trodAll_nil r2
  obtain rfl : args = #[v0, v1, v2] := by cases args; simp_all
  obtain rfl : ds = [d0, d1, d2] := by simp_all
  obtain ⟨a0, e0, _⟩ := okWide_struct Tryz.underlying23 (hval 0 23 v0 rfl rfl)
  obtain ⟨y0, oy0, hr0⟩ := Im.valAgg (opn23) (by rw [e0] at h0; exact h0)
  rw [← e0] at hr0
  obtain ⟨a1, l1, c1, e1⟩ := okWide_slice Tryz.underlying24 (hval 1 24 v1 rfl rfl)
  obtain ⟨y1, oy1, hr1⟩ := Im.val (opn24) (r := fun y => BE 11 (List.map A4 y)) (fun _ => rfl) (by rw [e1]; rfl) h1
  obtain ⟨a2, e2⟩ := okWide_string Tryz.underlying9 (hval 2 9 v2 rfl rfl)
  obtain ⟨y2, oy2, hr2⟩ := Im.val (opn9) (r := fun y => rS y) (fun _ => rfl) (by rw [e2]; rfl) h2
  obtain ⟨F, hF⟩ := Wf y0 y1 y2 oy0 oy1 oy2
  refine (QN F y0 y1 y2 true hF W (ZW W) [v0, v1, v2] ⟨hr0, hr1, hr2, trivial⟩ (R6 hE)).mono fun e W' ⟨R, v, Ho, Z', he, ⟨hR, _⟩, hp, hs⟩ => ?_
  subst hR
  obtain rfl : v = .bool true := hp
  exact ⟨_, he, Q6 T4 (by kernel_rfl) rfl rfl OR hW' rfl rfl rfl (R7 hs)⟩
theorem witness_row (os : Os) {H : Type} (enc : TypeId × Value → H) :
    (OpenSpec.ofChange Rows.queueKeepsSpec).preRow enc Tryz.prog Tryz.f3 Rows.queueKeepsRow.domain false Rows.queueKeepsRow.laid ((H4 os).forCall (fun _ _ => 0) ⟨#[], #[.agg #[(.int .i64 0), (.int .i64 0)], .slice none 0 0, .string ⟨#[]⟩], []⟩).memory #[.agg #[(.int .i64 0), (.int .i64 0)], .slice none 0 0, .string ⟨#[]⟩] := by
  have hw : (DataW.whole enc Tryz.prog ((H4 os).forCall (fun _ _ => 0) ⟨#[], #[.agg #[(.int .i64 0), (.int .i64 0)], .slice none 0 0, .string ⟨#[]⟩], []⟩).memory Tryz.f3.params.toList Rows.queueKeepsSpec.vars false #[.agg #[(.int .i64 0), (.int .i64 0)], .slice none 0 0, .string ⟨#[]⟩].toList 8).map (fun x => (x.1, x.2.1)) =
      some ([.agg [.lit (.int .i64 0), .lit (.int .i64 0)], .nil, .lit (.string [])], []) := by kernel_rfl
  obtain ⟨⟨x1, x2, x3⟩, hx, hx1⟩ := Option.map_eq_some_iff.1 hw
  simp only [Prod.mk.injEq] at hx1
  obtain ⟨rfl, rfl⟩ := hx1
  exact OpenSpec.preRow_of_cond 8 hx (by kernel_rfl) (fun k hk => by cases hk) (by kernel_rfl) (Sr os _)
theorem lifted (os : Os) (started : os.Started) (H : Type) (enc : TypeId × Value → H) (F : Stop.Interp) :
    ReturnsInHanded {} Tryz.checked os 3 .any ((OpenSpec.ofChange Rows.queueKeepsSpec).preRow enc Tryz.prog Tryz.f3 Rows.queueKeepsRow.domain false Rows.queueKeepsRow.laid) (((OpenSpec.ofChange Rows.queueKeepsSpec).at F).post enc Tryz.prog Tryz.f3 false true false false) := by
  refine returnsInHanded_of_row (C := Tryz.checked) (s := (OpenSpec.ofChange Rows.queueKeepsSpec)) own started (by kernel_rfl) Tryz.func3
    (witness_row_atRef (enc := enc) (C := Tryz.checked) false (H4 os) #[.agg #[(.int .i64 0), (.int .i64 0)], .slice none 0 0, .string ⟨#[]⟩] rfl (by kernel_rfl) (by kernel_rfl) (by kernel_rfl) (witness_row os enc)) ?_
  intro W base args ds gs before hval hW _ _ hz hL _ _
  exact contract H enc W base args ds gs before hval hW hz hL
theorem said : Rows.QueueKeepsSaid :=
  OpenClaim.holds_of_cond 3 Tryz.f3 rfl rfl rfl rfl rfl rfl rfl ⟨rfl, rfl, rfl, rfl, rfl⟩ rfl rfl rfl rfl rfl (by kernel_rfl) Tryz.func3 (by kernel_rfl)
    (of_decide_eq_true (by kernel_rfl)) (by unfold Func.isWrapper; first | (rw [if_pos (by decide +kernel)]; kernel_rfl) | (rw [if_neg (by decide +kernel)]; exact ⟨rfl, rfl⟩))
    (fun os started H enc _ F => by rw [OpenClaim.pre_eq_preRow]; exact lifted os started H enc F)
theorem plain (f : FuncId) (fn : Func) (hf : Tryz.pinned.checked.prog.funcNamed "faas/faaslaw28.QueueKeeps" = some f) (hfn : Tryz.pinned.checked.prog.funcs[f]? = some fn) :
    true = Tryz.pinned.checked.prog.looks [] ∧ ∀ (j : Nat) t, fn.params[j]? = some t → Tryz.pinned.checked.prog.wantsStandIn t = false := by
  obtain rfl : f = 3 := Option.some.inj ((show Tryz.prog.funcNamed "faas/faaslaw28.QueueKeeps" = some 3 by kernel_rfl).symm.trans hf) |>.symm
  obtain rfl : fn = Tryz.f3 := (Option.some.inj (Tryz.func3.symm.trans hfn)).symm
  refine ⟨by kernel_rfl, fun j t ht => ?_⟩
  rw [Tryz.params3] at ht
  have hm := Array.mem_of_getElem? ht
  have hall : ∀ t ∈ (#[23, 24, 9] : Array TypeId), Tryz.prog.wantsStandIn t = false := by
    intro t ht
    have := List.all_eq_true.1 (show ([23, 24, 9] : List TypeId).all (fun t => !Tryz.prog.wantsStandIn t) = true by kernel_rfl) t (by simpa using ht)
    simpa using this
  exact hall t hm
theorem card : Rows.QueueKeepsCardSaid :=
  Claim7.holds_tied_plain_at .later [] _ _ _ _ said (fun _ h => by cases h) (by kernel_rfl) (fun _ h => by cases h) queueKeeps_row_tie rfl ⟨rfl, rfl⟩ (by kernel_rfl) rfl plain (by kernel_rfl)
end Go.Proofs.YthbbedliepkakaaGreatDoor.lawQueueKeeps
namespace Go.Proofs.YthbbedliepkakaaGreatDoor
theorem queueKeeps_card : Rows.QueueKeepsCardSaid := lawQueueKeeps.card
end Go.Proofs.YthbbedliepkakaaGreatDoor
#print axioms Go.Proofs.YthbbedliepkakaaGreatDoor.queueKeeps_card
