/-
  The law HostAllows holds of the given program for every input of the bulk that the second form names.
-/
import Derived.Test.YtmjlemhondjfhaaGreatDoorHA6
namespace Go.Proofs.YtmjlemhondjfhaaGreatDoor.lawHostAllows
open Go Go.Proofs.YtmjlemhondjfhaaGreatDoor.Q Go.ChangeShapes Go.WideShapes Go.ChangeAt Go.RowKit
open Go.ChangeMaps (open_string)
set_option linter.unusedVariables false
set_option linter.unusedSimpArgs false
set_option maxRecDepth 100000
theorem opn9 : DW Tryz.prog 9 eS IL := DW.str Tryz.underlying9 (fun _ => rfl)
theorem opn22 : DW Tryz.prog 22 (fun ys : (List Ai) => [AO 1 (ys.map eS)]) (fun ys : (List Ai) => ys.all IL && decide (ys.length ≤ 1048576)) := DW.slice Tryz.underlying22 (by kernel_rfl) (by decide) opn9 DS (fun _ => rfl)
theorem opn4 : DW Tryz.prog 4 eB (fun _ => true) := DW.bool Tryz.underlying4 (fun _ => rfl)
-- struct Aj
theorem opn100 : DW Tryz.prog 100 Al Wk := fun h hB => by
  obtain ⟨xs, k, _, hxe, hlen, hxl, hf⟩ := DataW.trod_struct Tryz.underlying100 h
  rw [hxe] at hB
  have hxl : xs.length = 3 := hxl
  have ct : Tryz.prog.cellsOf 100 = 3 := by kernel_rfl
  rw [ct] at hlen
  have g0 : DataW.trod _ _ _ _ _ _ _ 4 ((List.drop 0 _).take (Tryz.prog.cellsOf 4)) = _ := hf 0 _ rfl
  have c0 : Tryz.prog.cellsOf 4 = 1 := by kernel_rfl
  rw [c0, List.getElem?_eq_getElem (by omega)] at g0
  obtain ⟨y0, o0, r0⟩ := opn4 g0 (Cy (by omega) hB)
  have g1 : DataW.trod _ _ _ _ _ _ _ 22 ((List.drop 1 _).take (Tryz.prog.cellsOf 22)) = _ := hf 1 _ rfl
  have c1 : Tryz.prog.cellsOf 22 = 1 := by kernel_rfl
  rw [c1, List.getElem?_eq_getElem (by omega)] at g1
  obtain ⟨y1, o1, r1⟩ := opn22 g1 (Cy (by omega) hB)
  have g2 : DataW.trod _ _ _ _ _ _ _ 22 ((List.drop 2 _).take (Tryz.prog.cellsOf 22)) = _ := hf 2 _ rfl
  have c2 : Tryz.prog.cellsOf 22 = 1 := by kernel_rfl
  rw [c2, List.getElem?_eq_getElem (by omega)] at g2
  obtain ⟨y2, o2, r2⟩ := opn22 g2 (Cy (by omega) hB)
  refine ⟨⟨y0, y1, y2⟩, by simp only [Wk, o0, o1, o2, Bool.and_self], ?_⟩
  exact (CG r0 rfl (CG r1 rfl (CG r2 rfl (Mr hlen))))
theorem opn23 : DW Tryz.prog 23 (fun ys : (List Aj) => [AO 3 (ys.map Al)]) (fun ys : (List Aj) => ys.all Wk && decide (ys.length ≤ 1048576)) := DW.slice Tryz.underlying23 (by kernel_rfl) (by decide) opn100 Ej (fun _ => rfl)
theorem opn3 : DW Tryz.prog 3 ZY (BG .i64) := DW.int Tryz.underlying3 (fun _ => rfl)
-- struct AI
theorem opn111 : DW Tryz.prog 111 A1 Wj := fun h hB => by
  obtain ⟨xs, k, _, hxe, hlen, hxl, hf⟩ := DataW.trod_struct Tryz.underlying111 h
  rw [hxe] at hB
  have hxl : xs.length = 5 := hxl
  have ct : Tryz.prog.cellsOf 111 = 5 := by kernel_rfl
  rw [ct] at hlen
  have g0 : DataW.trod _ _ _ _ _ _ _ 4 ((List.drop 0 _).take (Tryz.prog.cellsOf 4)) = _ := hf 0 _ rfl
  have c0 : Tryz.prog.cellsOf 4 = 1 := by kernel_rfl
  rw [c0, List.getElem?_eq_getElem (by omega)] at g0
  obtain ⟨y0, o0, r0⟩ := opn4 g0 (Cy (by omega) hB)
  have g1 : DataW.trod _ _ _ _ _ _ _ 3 ((List.drop 1 _).take (Tryz.prog.cellsOf 3)) = _ := hf 1 _ rfl
  have c1 : Tryz.prog.cellsOf 3 = 1 := by kernel_rfl
  rw [c1, List.getElem?_eq_getElem (by omega)] at g1
  obtain ⟨y1, o1, r1⟩ := opn3 g1 (Cy (by omega) hB)
  have g2 : DataW.trod _ _ _ _ _ _ _ 3 ((List.drop 2 _).take (Tryz.prog.cellsOf 3)) = _ := hf 2 _ rfl
  have c2 : Tryz.prog.cellsOf 3 = 1 := by kernel_rfl
  rw [c2, List.getElem?_eq_getElem (by omega)] at g2
  obtain ⟨y2, o2, r2⟩ := opn3 g2 (Cy (by omega) hB)
  have g3 : DataW.trod _ _ _ _ _ _ _ 3 ((List.drop 3 _).take (Tryz.prog.cellsOf 3)) = _ := hf 3 _ rfl
  have c3 : Tryz.prog.cellsOf 3 = 1 := by kernel_rfl
  rw [c3, List.getElem?_eq_getElem (by omega)] at g3
  obtain ⟨y3, o3, r3⟩ := opn3 g3 (Cy (by omega) hB)
  have g4 : DataW.trod _ _ _ _ _ _ _ 3 ((List.drop 4 _).take (Tryz.prog.cellsOf 3)) = _ := hf 4 _ rfl
  have c4 : Tryz.prog.cellsOf 3 = 1 := by kernel_rfl
  rw [c4, List.getElem?_eq_getElem (by omega)] at g4
  obtain ⟨y4, o4, r4⟩ := opn3 g4 (Cy (by omega) hB)
  refine ⟨⟨y0, y1, y2, y3, y4⟩, by simp only [Wj, o0, o1, o2, o3, o4, Bool.and_self], ?_⟩
  exact (CG r0 rfl (CG r1 rfl (CG r2 rfl (CG r3 rfl (CG r4 rfl (Mr hlen))))))
theorem opn24 : DW Tryz.prog 24 (fun ys : (List AI) => [AO 5 (ys.map A1)]) (fun ys : (List AI) => ys.all Wj && decide (ys.length ≤ 1048576)) := DW.slice Tryz.underlying24 (by kernel_rfl) (by decide) opn111 Hn (fun _ => rfl)
-- struct AV
theorem opn26 : DW Tryz.prog 26 Bf Ac5 := fun h hB => by
  obtain ⟨xs, k, _, hxe, hlen, hxl, hf⟩ := DataW.trod_struct Tryz.underlying26 h
  rw [hxe] at hB
  have hxl : xs.length = 6 := hxl
  have ct : Tryz.prog.cellsOf 26 = 6 := by kernel_rfl
  rw [ct] at hlen
  have g0 : DataW.trod _ _ _ _ _ _ _ 9 ((List.drop 0 _).take (Tryz.prog.cellsOf 9)) = _ := hf 0 _ rfl
  have c0 : Tryz.prog.cellsOf 9 = 1 := by kernel_rfl
  rw [c0, List.getElem?_eq_getElem (by omega)] at g0
  obtain ⟨y0, o0, r0⟩ := opn9 g0 (Cy (by omega) hB)
  have g1 : DataW.trod _ _ _ _ _ _ _ 9 ((List.drop 1 _).take (Tryz.prog.cellsOf 9)) = _ := hf 1 _ rfl
  have c1 : Tryz.prog.cellsOf 9 = 1 := by kernel_rfl
  rw [c1, List.getElem?_eq_getElem (by omega)] at g1
  obtain ⟨y1, o1, r1⟩ := opn9 g1 (Cy (by omega) hB)
  have g2 : DataW.trod _ _ _ _ _ _ _ 22 ((List.drop 2 _).take (Tryz.prog.cellsOf 22)) = _ := hf 2 _ rfl
  have c2 : Tryz.prog.cellsOf 22 = 1 := by kernel_rfl
  rw [c2, List.getElem?_eq_getElem (by omega)] at g2
  obtain ⟨y2, o2, r2⟩ := opn22 g2 (Cy (by omega) hB)
  have g3 : DataW.trod _ _ _ _ _ _ _ 23 ((List.drop 3 _).take (Tryz.prog.cellsOf 23)) = _ := hf 3 _ rfl
  have c3 : Tryz.prog.cellsOf 23 = 1 := by kernel_rfl
  rw [c3, List.getElem?_eq_getElem (by omega)] at g3
  obtain ⟨y3, o3, r3⟩ := opn23 g3 (Cy (by omega) hB)
  have g4 : DataW.trod _ _ _ _ _ _ _ 24 ((List.drop 4 _).take (Tryz.prog.cellsOf 24)) = _ := hf 4 _ rfl
  have c4 : Tryz.prog.cellsOf 24 = 1 := by kernel_rfl
  rw [c4, List.getElem?_eq_getElem (by omega)] at g4
  obtain ⟨y4, o4, r4⟩ := opn24 g4 (Cy (by omega) hB)
  have g5 : DataW.trod _ _ _ _ _ _ _ 3 ((List.drop 5 _).take (Tryz.prog.cellsOf 3)) = _ := hf 5 _ rfl
  have c5 : Tryz.prog.cellsOf 3 = 1 := by kernel_rfl
  rw [c5, List.getElem?_eq_getElem (by omega)] at g5
  obtain ⟨y5, o5, r5⟩ := opn3 g5 (Cy (by omega) hB)
  refine ⟨⟨y0, y1, y2, y3, y4, y5⟩, by simp only [Ac5, o0, o1, o2, o3, o4, o5, Bool.and_self], ?_⟩
  exact (CG r0 rfl (CG r1 rfl (CG r2 rfl (CG r3 rfl (CG r4 rfl (CG r5 rfl (Mr hlen)))))))
theorem opn68 : DW Tryz.prog 68 ZY (BG .i64) := DW.int Tryz.underlying68 (fun _ => rfl)
-- struct Ac
theorem opn70 : DW Tryz.prog 70 Ae Zj := fun h hB => by
  obtain ⟨xs, k, _, hxe, hlen, hxl, hf⟩ := DataW.trod_struct Tryz.underlying70 h
  rw [hxe] at hB
  have hxl : xs.length = 4 := hxl
  have ct : Tryz.prog.cellsOf 70 = 4 := by kernel_rfl
  rw [ct] at hlen
  have g0 : DataW.trod _ _ _ _ _ _ _ 68 ((List.drop 0 _).take (Tryz.prog.cellsOf 68)) = _ := hf 0 _ rfl
  have c0 : Tryz.prog.cellsOf 68 = 1 := by kernel_rfl
  rw [c0, List.getElem?_eq_getElem (by omega)] at g0
  obtain ⟨y0, o0, r0⟩ := opn68 g0 (Cy (by omega) hB)
  have g1 : DataW.trod _ _ _ _ _ _ _ 3 ((List.drop 1 _).take (Tryz.prog.cellsOf 3)) = _ := hf 1 _ rfl
  have c1 : Tryz.prog.cellsOf 3 = 1 := by kernel_rfl
  rw [c1, List.getElem?_eq_getElem (by omega)] at g1
  obtain ⟨y1, o1, r1⟩ := opn3 g1 (Cy (by omega) hB)
  have g2 : DataW.trod _ _ _ _ _ _ _ 9 ((List.drop 2 _).take (Tryz.prog.cellsOf 9)) = _ := hf 2 _ rfl
  have c2 : Tryz.prog.cellsOf 9 = 1 := by kernel_rfl
  rw [c2, List.getElem?_eq_getElem (by omega)] at g2
  obtain ⟨y2, o2, r2⟩ := opn9 g2 (Cy (by omega) hB)
  have g3 : DataW.trod _ _ _ _ _ _ _ 3 ((List.drop 3 _).take (Tryz.prog.cellsOf 3)) = _ := hf 3 _ rfl
  have c3 : Tryz.prog.cellsOf 3 = 1 := by kernel_rfl
  rw [c3, List.getElem?_eq_getElem (by omega)] at g3
  obtain ⟨y3, o3, r3⟩ := opn3 g3 (Cy (by omega) hB)
  refine ⟨⟨y0, y1, y2, y3⟩, by simp only [Zj, o0, o1, o2, o3, Bool.and_self], ?_⟩
  exact (CG r0 rfl (CG r1 rfl (CG r2 rfl (CG r3 rfl (Mr hlen)))))
theorem opn50 : DW Tryz.prog 50 (fun ys : (List Ac) => [AO 4 (ys.map Ae)]) (fun ys : (List Ac) => ys.all Zj && decide (ys.length ≤ 1048576)) := DW.slice Tryz.underlying50 (by kernel_rfl) (by decide) opn70 Dx (fun _ => rfl)
theorem opn27 : DW Tryz.prog 27 (fun ys : (List (List Ac)) => [AO 1 (ys.map AM)]) (fun ys : (List (List Ac)) => ys.all (fun ys : (List Ac) => ys.all Zj && decide (ys.length ≤ 1048576)) && decide (ys.length ≤ 1048576)) := DW.slice Tryz.underlying27 (by kernel_rfl) (by decide) opn50 CW (fun _ => rfl)
-- struct AQ
theorem opn29 : DW Tryz.prog 29 AU Ac4 := fun h hB => by
  obtain ⟨xs, k, _, hxe, hlen, hxl, hf⟩ := DataW.trod_struct Tryz.underlying29 h
  rw [hxe] at hB
  have hxl : xs.length = 2 := hxl
  have ct : Tryz.prog.cellsOf 29 = 2 := by kernel_rfl
  rw [ct] at hlen
  have g0 : DataW.trod _ _ _ _ _ _ _ 9 ((List.drop 0 _).take (Tryz.prog.cellsOf 9)) = _ := hf 0 _ rfl
  have c0 : Tryz.prog.cellsOf 9 = 1 := by kernel_rfl
  rw [c0, List.getElem?_eq_getElem (by omega)] at g0
  obtain ⟨y0, o0, r0⟩ := opn9 g0 (Cy (by omega) hB)
  have g1 : DataW.trod _ _ _ _ _ _ _ 27 ((List.drop 1 _).take (Tryz.prog.cellsOf 27)) = _ := hf 1 _ rfl
  have c1 : Tryz.prog.cellsOf 27 = 1 := by kernel_rfl
  rw [c1, List.getElem?_eq_getElem (by omega)] at g1
  obtain ⟨y1, o1, r1⟩ := opn27 g1 (Cy (by omega) hB)
  refine ⟨⟨y0, y1⟩, by simp only [Ac4, o0, o1, Bool.and_self], ?_⟩
  exact (CG r0 rfl (CG r1 rfl (Mr hlen)))
theorem contract (H : Type) (enc : TypeId × Value → H) (W : World) (base : Nat) (args : Array Value) (ds gs : List (DataW H)) (before : List MemPlace)
    (hval : ∀ (j : Nat) t v, Tryz.f3.params[j]? = some t → args[j]? = some v → Value.okWide Tryz.prog W .any base t v)
    (hW : DataW.Whole enc Tryz.prog Tryz.f3.params.toList Rows.hostAllowsSpec.vars false W args.toList ds gs before)
    (hk : ∀ k, ((Rows.OpenSpec.upto Rows.hostAllowsSpec)).cond = some k → k H (ds ++ gs) = true)
    (hz : (DataW.weightsEach Tryz.prog (Tryz.f3.params.toList ++ []) (ds ++ gs)).all (· ≤ reachBytes) = true) (hL : laidMet Tryz.prog PB W) :
    Calls Tryz.prog 3 args W fun e W' => ∃ v, e = .returned v ∧ Rows.hostAllowsSpec.post enc Tryz.prog Tryz.f3 false true false false W args v W' := by
  have hE := AcX hL
  have hW' := hW
  obtain ⟨p, q, hA0, hV, hbf, hfz, hnd⟩ := hW
  have hA : DataW.TrodAll enc Tryz.prog W 0 (fun _ => true) true Tryz.f3.params.toList args.toList ds p := hA0
  rw [Tryz.params3] at hA hval hz
  obtain ⟨rfl, rfl⟩ := trodVars_none hV
  obtain ⟨v0, vs0, d0, ds0, p0, q0, hargs, hd0, hq0, h0, r0⟩ := trodAll_cons hA
  obtain ⟨v1, vs1, d1, ds1, p1, q1, hv1, hd1, hq1, h1, r1⟩ := trodAll_cons r0
  obtain ⟨v2, vs2, d2, ds2, p2, q2, hv2, hd2, hq2, h2, r2⟩ := trodAll_cons r1
  obtain ⟨hvn, hdn, hqn⟩ := trodAll_nil r2
  obtain rfl : args = #[v0, v1, v2] := by cases args; simp_all
  obtain rfl : ds = [d0, d1, d2] := by simp_all
  have hB : Rows.uptoBulkAll [d0, d1, d2] ≤ 1048576 := of_decide_eq_true (hk _ rfl)
  have hB0 : Rows.uptoBulk d0 ≤ 1048576 := Nat.le_trans (Jy (by simp)) hB
  have hB1 : Rows.uptoBulk d1 ≤ 1048576 := Nat.le_trans (Jy (by simp)) hB
  have hB2 : Rows.uptoBulk d2 ≤ 1048576 := Nat.le_trans (Jy (by simp)) hB
  obtain ⟨a0, e0, _⟩ := okWide_struct Tryz.underlying26 (hval 0 26 v0 rfl rfl)
  obtain ⟨y0, oy0, hr0⟩ := DW.valAgg (opn26) (by rw [e0] at h0; exact h0) hB0
  rw [← e0] at hr0
  obtain ⟨a1, e1, _⟩ := okWide_struct Tryz.underlying29 (hval 1 29 v1 rfl rfl)
  obtain ⟨y1, oy1, hr1⟩ := DW.valAgg (opn29) (by rw [e1] at h1; exact h1) hB1
  rw [← e1] at hr1
  obtain ⟨a2, e2⟩ := okWide_string Tryz.underlying9 (hval 2 9 v2 rfl rfl)
  obtain ⟨y2, oy2, hr2⟩ := DW.val (opn9) (r := fun y => rS y) (fun _ => rfl) (by rw [e2]; rfl) h2 hB2
  obtain ⟨F, hF⟩ := law y0 y1 y2 oy0 oy1 oy2
  refine (Vp F y0 y1 y2 true hF W (ZW W) [v0, v1, v2] ⟨hr0, hr1, hr2, trivial⟩ (Y6 hE)).mono fun e W' ⟨R, v, Ho, Z', he, ⟨hR, _⟩, hp, hs⟩ => ?_
  subst hR
  obtain rfl : v = .bool true := hp
  exact ⟨_, he, X5 Abo (by kernel_rfl) rfl rfl V8 hW' rfl rfl rfl (Y7 hs)⟩
theorem witness_row (os : Os) {H : Type} (enc : TypeId × Value → H) :
    (Rows.OpenSpec.upto Rows.hostAllowsSpec).preRow enc Tryz.prog Tryz.f3 Rows.hostAllowsUptoRow.domain false Rows.hostAllowsUptoRow.laid ((La os).forCall (fun _ _ => 0) ⟨#[], #[.agg #[(.string ⟨#[]⟩), (.string ⟨#[]⟩), (.slice none 0 0), (.slice none 0 0), (.slice none 0 0), (.int .i64 0)], .agg #[(.string ⟨#[]⟩), (.slice none 0 0)], .string ⟨#[]⟩], []⟩).memory #[.agg #[(.string ⟨#[]⟩), (.string ⟨#[]⟩), (.slice none 0 0), (.slice none 0 0), (.slice none 0 0), (.int .i64 0)], .agg #[(.string ⟨#[]⟩), (.slice none 0 0)], .string ⟨#[]⟩] := by
  have hw : (DataW.whole enc Tryz.prog ((La os).forCall (fun _ _ => 0) ⟨#[], #[.agg #[(.string ⟨#[]⟩), (.string ⟨#[]⟩), (.slice none 0 0), (.slice none 0 0), (.slice none 0 0), (.int .i64 0)], .agg #[(.string ⟨#[]⟩), (.slice none 0 0)], .string ⟨#[]⟩], []⟩).memory Tryz.f3.params.toList Rows.hostAllowsSpec.vars false #[.agg #[(.string ⟨#[]⟩), (.string ⟨#[]⟩), (.slice none 0 0), (.slice none 0 0), (.slice none 0 0), (.int .i64 0)], .agg #[(.string ⟨#[]⟩), (.slice none 0 0)], .string ⟨#[]⟩].toList 8).map (fun x => (x.1, x.2.1)) =
      some ([.agg [.lit (.string []), .lit (.string []), .nil, .nil, .nil, .lit (.int .i64 0)], .agg [.lit (.string []), .nil], .lit (.string [])], []) := by kernel_rfl
  obtain ⟨⟨x1, x2, x3⟩, hx, hx1⟩ := Option.map_eq_some_iff.1 hw
  simp only [Prod.mk.injEq] at hx1
  obtain ⟨rfl, rfl⟩ := hx1
  exact OpenSpec.preRow_of_cond 8 hx (by kernel_rfl) (fun k hk => by cases hk; kernel_rfl) (by kernel_rfl) (Z6 os _)
theorem lifted (os : Os) (started : os.Started) (H : Type) (enc : TypeId × Value → H) (F : Stop.Interp) :
    ReturnsInHanded {} Tryz.checked os 3 .any ((Rows.OpenSpec.upto Rows.hostAllowsSpec).preRow enc Tryz.prog Tryz.f3 Rows.hostAllowsUptoRow.domain false Rows.hostAllowsUptoRow.laid) (((Rows.OpenSpec.upto Rows.hostAllowsSpec).at F).post enc Tryz.prog Tryz.f3 false true false false) := by
  refine returnsInHanded_of_row (C := Tryz.checked) (s := (Rows.OpenSpec.upto Rows.hostAllowsSpec)) own started (by kernel_rfl) Tryz.func3
    (witness_row_atRef (enc := enc) (C := Tryz.checked) false (La os) #[.agg #[(.string ⟨#[]⟩), (.string ⟨#[]⟩), (.slice none 0 0), (.slice none 0 0), (.slice none 0 0), (.int .i64 0)], .agg #[(.string ⟨#[]⟩), (.slice none 0 0)], .string ⟨#[]⟩] rfl (by kernel_rfl) (by kernel_rfl) (by kernel_rfl) (witness_row os enc)) ?_
  intro W base args ds gs before hval hW _ hk hz hL _ _
  exact contract H enc W base args ds gs before hval hW hk hz hL
theorem said : Rows.HostAllowsUptoSaid :=
  OpenClaim.holds_of_cond 3 Tryz.f3 rfl rfl rfl rfl rfl rfl rfl ⟨rfl, rfl, rfl, rfl, rfl⟩ rfl rfl rfl rfl rfl (by kernel_rfl) Tryz.func3 (by kernel_rfl)
    (of_decide_eq_true (by kernel_rfl)) (by unfold Func.isWrapper; first | (rw [if_pos (by decide +kernel)]; kernel_rfl) | (rw [if_neg (by decide +kernel)]; exact ⟨rfl, rfl⟩))
    (fun os started H enc _ F => by rw [OpenClaim.pre_eq_preRow]; exact lifted os started H enc F)
theorem plain (f : FuncId) (fn : Func) (hf : Tryz.pinned.checked.prog.funcNamed "faas/faaslaw35.HostAllows" = some f) (hfn : Tryz.pinned.checked.prog.funcs[f]? = some fn) :
    true = Tryz.pinned.checked.prog.looks [] ∧ ∀ (j : Nat) t, fn.params[j]? = some t → Tryz.pinned.checked.prog.wantsStandIn t = false := by
  obtain rfl : f = 3 := Option.some.inj ((show Tryz.prog.funcNamed "faas/faaslaw35.HostAllows" = some 3 by kernel_rfl).symm.trans hf) |>.symm
  obtain rfl : fn = Tryz.f3 := (Option.some.inj (Tryz.func3.symm.trans hfn)).symm
  refine ⟨by kernel_rfl, fun j t ht => ?_⟩
  rw [Tryz.params3] at ht
  have hm := Array.mem_of_getElem? ht
  have hall : ∀ t ∈ (#[26, 29, 9] : Array TypeId), Tryz.prog.wantsStandIn t = false := by
    intro t ht
    have := List.all_eq_true.1 (show ([26, 29, 9] : List TypeId).all (fun t => !Tryz.prog.wantsStandIn t) = true by kernel_rfl) t (by simpa using ht)
    simpa using this
  exact hall t hm
theorem card : Rows.HostAllowsUptoCardSaid :=
  Claim7.holds_tied_plain_at .later [] _ _ _ _ said (fun _ h => by cases h) (by kernel_rfl) (fun _ h => by cases h) hostAllowsUpto_row_tie rfl ⟨rfl, rfl⟩ (by kernel_rfl) rfl plain (by kernel_rfl)
end Go.Proofs.YtmjlemhondjfhaaGreatDoor.lawHostAllows
namespace Go.Proofs.YtmjlemhondjfhaaGreatDoor
theorem hostAllows_card : Rows.HostAllowsUptoCardSaid := lawHostAllows.card
end Go.Proofs.YtmjlemhondjfhaaGreatDoor
#print axioms Go.Proofs.YtmjlemhondjfhaaGreatDoor.hostAllows_card
