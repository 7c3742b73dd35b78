/-
  The law EventDescends holds of the given program for every input.
-/
import Derived.Test.YtpmiamphppcfeaaDoorEN5
namespace Go.Proofs.YtpmiamphppcfeaaDoor.lawEventDescends
open Go Go.Proofs.YtpmiamphppcfeaaDoor.Q Go.ChangeShapes Go.WideShapes Go.ChangeAt Go.RowKit
open Go.ChangeMaps (open_string)
set_option linter.unusedVariables false
set_option linter.unusedSimpArgs false
set_option maxRecDepth 100000
theorem opn9 : Opn Tryd.prog 9 eS okS := Opn.str Tryd.underlying9 (fun _ => rfl)
theorem opn3 : Opn Tryd.prog 3 eI_i64 (inK .i64) := Opn.int Tryd.underlying3 (fun _ => rfl)
theorem opn52 : Opn Tryd.prog 52 eI_i64 (inK .i64) := Opn.int Tryd.underlying52 (fun _ => rfl)
-- struct TApiCell
theorem opn54 : Opn Tryd.prog 54 eTApiCell ok54 := fun h => by
  obtain ⟨xs, k, _, _, hlen, hxl, hf⟩ := DataW.trod_struct Tryd.underlying54 h
  have hxl : xs.length = 4 := hxl
  have ct : Tryd.prog.cellsOf 54 = 4 := by kernel_rfl
  rw [ct] at hlen
  have g0 : DataW.trod _ _ _ _ _ _ _ 52 ((List.drop 0 _).take (Tryd.prog.cellsOf 52)) = _ := hf 0 _ rfl
  have c0 : Tryd.prog.cellsOf 52 = 1 := by kernel_rfl
  rw [c0, List.getElem?_eq_getElem (by omega)] at g0
  obtain ⟨y0, o0, r0⟩ := opn52 g0
  have g1 : DataW.trod _ _ _ _ _ _ _ 3 ((List.drop 1 _).take (Tryd.prog.cellsOf 3)) = _ := hf 1 _ rfl
  have c1 : Tryd.prog.cellsOf 3 = 1 := by kernel_rfl
  rw [c1, List.getElem?_eq_getElem (by omega)] at g1
  obtain ⟨y1, o1, r1⟩ := opn3 g1
  have g2 : DataW.trod _ _ _ _ _ _ _ 9 ((List.drop 2 _).take (Tryd.prog.cellsOf 9)) = _ := hf 2 _ rfl
  have c2 : Tryd.prog.cellsOf 9 = 1 := by kernel_rfl
  rw [c2, List.getElem?_eq_getElem (by omega)] at g2
  obtain ⟨y2, o2, r2⟩ := opn9 g2
  have g3 : DataW.trod _ _ _ _ _ _ _ 3 ((List.drop 3 _).take (Tryd.prog.cellsOf 3)) = _ := hf 3 _ rfl
  have c3 : Tryd.prog.cellsOf 3 = 1 := by kernel_rfl
  rw [c3, List.getElem?_eq_getElem (by omega)] at g3
  obtain ⟨y3, o3, r3⟩ := opn3 g3
  refine ⟨⟨y0, y1, y2, y3⟩, by simp only [ok54, o0, o1, o2, o3, Bool.and_self], ?_⟩
  exact (seg_cons r0 rfl (seg_cons r1 rfl (seg_cons r2 rfl (seg_cons r3 rfl (seg_nil hlen)))))
theorem opn22 : Opn Tryd.prog 22 (fun ys : (List TApiCell) => [rSl 4 (ys.map eTApiCell)]) (fun ys : (List TApiCell) => ys.all ok54 && decide (ys.length ≤ 9223372036854775807)) := Opn.slice Tryd.underlying22 (by kernel_rfl) (by decide) opn54 eTApiCell_len (fun _ => rfl)
-- struct TApiEvent
theorem opn24 : Opn Tryd.prog 24 eTApiEvent ok24 := fun h => by
  obtain ⟨xs, k, _, _, hlen, hxl, hf⟩ := DataW.trod_struct Tryd.underlying24 h
  have hxl : xs.length = 7 := hxl
  have ct : Tryd.prog.cellsOf 24 = 7 := by kernel_rfl
  rw [ct] at hlen
  have g0 : DataW.trod _ _ _ _ _ _ _ 9 ((List.drop 0 _).take (Tryd.prog.cellsOf 9)) = _ := hf 0 _ rfl
  have c0 : Tryd.prog.cellsOf 9 = 1 := by kernel_rfl
  rw [c0, List.getElem?_eq_getElem (by omega)] at g0
  obtain ⟨y0, o0, r0⟩ := opn9 g0
  have g1 : DataW.trod _ _ _ _ _ _ _ 9 ((List.drop 1 _).take (Tryd.prog.cellsOf 9)) = _ := hf 1 _ rfl
  have c1 : Tryd.prog.cellsOf 9 = 1 := by kernel_rfl
  rw [c1, List.getElem?_eq_getElem (by omega)] at g1
  obtain ⟨y1, o1, r1⟩ := opn9 g1
  have g2 : DataW.trod _ _ _ _ _ _ _ 9 ((List.drop 2 _).take (Tryd.prog.cellsOf 9)) = _ := hf 2 _ rfl
  have c2 : Tryd.prog.cellsOf 9 = 1 := by kernel_rfl
  rw [c2, List.getElem?_eq_getElem (by omega)] at g2
  obtain ⟨y2, o2, r2⟩ := opn9 g2
  have g3 : DataW.trod _ _ _ _ _ _ _ 9 ((List.drop 3 _).take (Tryd.prog.cellsOf 9)) = _ := hf 3 _ rfl
  have c3 : Tryd.prog.cellsOf 9 = 1 := by kernel_rfl
  rw [c3, List.getElem?_eq_getElem (by omega)] at g3
  obtain ⟨y3, o3, r3⟩ := opn9 g3
  have g4 : DataW.trod _ _ _ _ _ _ _ 3 ((List.drop 4 _).take (Tryd.prog.cellsOf 3)) = _ := hf 4 _ rfl
  have c4 : Tryd.prog.cellsOf 3 = 1 := by kernel_rfl
  rw [c4, List.getElem?_eq_getElem (by omega)] at g4
  obtain ⟨y4, o4, r4⟩ := opn3 g4
  have g5 : DataW.trod _ _ _ _ _ _ _ 9 ((List.drop 5 _).take (Tryd.prog.cellsOf 9)) = _ := hf 5 _ rfl
  have c5 : Tryd.prog.cellsOf 9 = 1 := by kernel_rfl
  rw [c5, List.getElem?_eq_getElem (by omega)] at g5
  obtain ⟨y5, o5, r5⟩ := opn9 g5
  have g6 : DataW.trod _ _ _ _ _ _ _ 22 ((List.drop 6 _).take (Tryd.prog.cellsOf 22)) = _ := hf 6 _ rfl
  have c6 : Tryd.prog.cellsOf 22 = 1 := by kernel_rfl
  rw [c6, List.getElem?_eq_getElem (by omega)] at g6
  obtain ⟨y6, o6, r6⟩ := opn22 g6
  refine ⟨⟨y0, y1, y2, y3, y4, y5, y6⟩, by simp only [ok24, o0, o1, o2, o3, o4, o5, o6, Bool.and_self], ?_⟩
  exact (seg_cons r0 rfl (seg_cons r1 rfl (seg_cons r2 rfl (seg_cons r3 rfl (seg_cons r4 rfl (seg_cons r5 rfl (seg_cons r6 rfl (seg_nil hlen))))))))
theorem contract (H : Type) (enc : TypeId × Value → H) (W : World) (base : Nat) (args : Array Value) (ds gs : List (DataW H)) (before : List MemPlace)
    (hval : ∀ (j : Nat) t v, Tryd.f4.params[j]? = some t → args[j]? = some v → Value.okWide Tryd.prog W .any base t v)
    (hW : DataW.Whole enc Tryd.prog Tryd.f4.params.toList Rows.eventDescendsSpec.vars false W args.toList ds gs before)
    (hz : (DataW.weightsEach Tryd.prog (Tryd.f4.params.toList ++ []) (ds ++ gs)).all (· ≤ reachBytes) = true) (hL : laidMet Tryd.prog laidList W) :
    Calls Tryd.prog 4 args W fun e W' => ∃ v, e = .returned v ∧ Rows.eventDescendsSpec.post enc Tryd.prog Tryd.f4 false true false false W args v W' := by
  have hE := env_of hL
  have hW' := hW
  obtain ⟨p, q, hA0, hV, hbf, hfz, hnd⟩ := hW
  have hA : DataW.TrodAll enc Tryd.prog W 0 (fun _ => true) true Tryd.f4.params.toList args.toList ds p := hA0
  rw [Tryd.params4] at hA hval hz
  obtain ⟨rfl, rfl⟩ := trodVars_none hV
  obtain ⟨v0, vs0, d0, ds0, p0, q0, hargs, hd0, hq0, h0, r0⟩ := trodAll_cons hA
  obtain ⟨v1, vs1, d1, ds1, p1, q1, hv1, hd1, hq1, h1, r1⟩ := trodAll_cons r0
  obtain ⟨v2, vs2, d2, ds2, p2, q2, hv2, hd2, hq2, h2, r2⟩ := trodAll_cons r1
  obtain ⟨v3, vs3, d3, ds3, p3, q3, hv3, hd3, hq3, h3, r3⟩ := trodAll_cons r2
  obtain ⟨v4, vs4, d4, ds4, p4, q4, hv4, hd4, hq4, h4, r4⟩ := trodAll_cons r3
  obtain ⟨v5, vs5, d5, ds5, p5, q5, hv5, hd5, hq5, h5, r5⟩ := trodAll_cons r4
  obtain ⟨hvn, hdn, hqn⟩ := trodAll_nil r5
  obtain rfl : args = #[v0, v1, v2, v3, v4, v5] := by cases args; simp_all
  obtain rfl : ds = [d0, d1, d2, d3, d4, d5] := by simp_all
  obtain ⟨a0, e0, _⟩ := okWide_struct Tryd.underlying24 (hval 0 24 v0 rfl rfl)
  obtain ⟨y0, oy0, hr0⟩ := Opn.valAgg (opn24) (by rw [e0] at h0; exact h0)
  rw [← e0] at hr0
  obtain ⟨a1, e1⟩ := okWide_int Tryd.underlying3 (hval 1 3 v1 rfl rfl)
  obtain ⟨y1, oy1, hr1⟩ := Opn.val (opn3) (r := fun y => rI .i64 y) (fun _ => rfl) (by rw [e1]; rfl) h1
  obtain ⟨a2, e2⟩ := okWide_int Tryd.underlying3 (hval 2 3 v2 rfl rfl)
  obtain ⟨y2, oy2, hr2⟩ := Opn.val (opn3) (r := fun y => rI .i64 y) (fun _ => rfl) (by rw [e2]; rfl) h2
  obtain ⟨a3, e3⟩ := okWide_string Tryd.underlying9 (hval 3 9 v3 rfl rfl)
  obtain ⟨y3, oy3, hr3⟩ := Opn.val (opn9) (r := fun y => rS y) (fun _ => rfl) (by rw [e3]; rfl) h3
  obtain ⟨a4, l4, c4, e4⟩ := okWide_slice Tryd.underlying22 (hval 4 22 v4 rfl rfl)
  obtain ⟨y4, oy4, hr4⟩ := Opn.val (opn22) (r := fun y => rSl 4 (List.map eTApiCell y)) (fun _ => rfl) (by rw [e4]; rfl) h4
  obtain ⟨a5, e5⟩ := okWide_int Tryd.underlying3 (hval 5 3 v5 rfl rfl)
  obtain ⟨y5, oy5, hr5⟩ := Opn.val (opn3) (r := fun y => rI .i64 y) (fun _ => rfl) (by rw [e5]; rfl) h5
  obtain ⟨F, hF⟩ := law y0 y1 y2 y3 y4 y5 oy0 oy1 oy2 oy3 oy4 oy5
  refine (lEvDescends_w F y0 y1 y2 y3 y4 y5 true hF W (ZW W) [v0, v1, v2, v3, v4, v5] ⟨hr0, hr1, hr2, hr3, hr4, hr5, trivial⟩ (st_start hE)).mono fun e W' ⟨R, v, Ho, Z', he, ⟨hR, _⟩, hp, hs⟩ => ?_
  subst hR
  obtain rfl : v = .bool true := hp
  exact ⟨_, he, post_true laidOut (by kernel_rfl) rfl rfl bool_under hW' rfl rfl rfl (st_below hs)⟩
theorem witness_row (os : Os) {H : Type} (enc : TypeId × Value → H) :
    (OpenSpec.ofChange Rows.eventDescendsSpec).preRow enc Tryd.prog Tryd.f4 Rows.eventDescendsRow.domain false Rows.eventDescendsRow.laid ((laidWorld os).forCall (fun _ _ => 0) ⟨#[], #[.agg #[(.string ⟨#[]⟩), (.string ⟨#[]⟩), (.string ⟨#[]⟩), (.string ⟨#[]⟩), (.int .i64 0), (.string ⟨#[]⟩), (.slice none 0 0)], .int .i64 0, .int .i64 0, .string ⟨#[]⟩, .slice none 0 0, .int .i64 0], []⟩).memory #[.agg #[(.string ⟨#[]⟩), (.string ⟨#[]⟩), (.string ⟨#[]⟩), (.string ⟨#[]⟩), (.int .i64 0), (.string ⟨#[]⟩), (.slice none 0 0)], .int .i64 0, .int .i64 0, .string ⟨#[]⟩, .slice none 0 0, .int .i64 0] := by
  have hw : (DataW.whole enc Tryd.prog ((laidWorld os).forCall (fun _ _ => 0) ⟨#[], #[.agg #[(.string ⟨#[]⟩), (.string ⟨#[]⟩), (.string ⟨#[]⟩), (.string ⟨#[]⟩), (.int .i64 0), (.string ⟨#[]⟩), (.slice none 0 0)], .int .i64 0, .int .i64 0, .string ⟨#[]⟩, .slice none 0 0, .int .i64 0], []⟩).memory Tryd.f4.params.toList Rows.eventDescendsSpec.vars false #[.agg #[(.string ⟨#[]⟩), (.string ⟨#[]⟩), (.string ⟨#[]⟩), (.string ⟨#[]⟩), (.int .i64 0), (.string ⟨#[]⟩), (.slice none 0 0)], .int .i64 0, .int .i64 0, .string ⟨#[]⟩, .slice none 0 0, .int .i64 0].toList 8).map (fun x => (x.1, x.2.1)) =
      some ([.agg [.lit (.string []), .lit (.string []), .lit (.string []), .lit (.string []), .lit (.int .i64 0), .lit (.string []), .nil], .lit (.int .i64 0), .lit (.int .i64 0), .lit (.string []), .nil, .lit (.int .i64 0)], []) := by kernel_rfl
  obtain ⟨⟨x1, x2, x3⟩, hx, hx1⟩ := Option.map_eq_some_iff.1 hw
  simp only [Prod.mk.injEq] at hx1
  obtain ⟨rfl, rfl⟩ := hx1
  exact OpenSpec.preRow_of_cond 8 hx (by kernel_rfl) (fun k hk => by cases hk) (by kernel_rfl) (laid_met os _)
theorem lifted (os : Os) (started : os.Started) (H : Type) (enc : TypeId × Value → H) (F : Stop.Interp) :
    ReturnsInHanded {} Tryd.checked os 4 .any ((OpenSpec.ofChange Rows.eventDescendsSpec).preRow enc Tryd.prog Tryd.f4 Rows.eventDescendsRow.domain false Rows.eventDescendsRow.laid) (((OpenSpec.ofChange Rows.eventDescendsSpec).at F).post enc Tryd.prog Tryd.f4 false true false false) := by
  refine returnsInHanded_of_row (C := Tryd.checked) (s := (OpenSpec.ofChange Rows.eventDescendsSpec)) own started (by kernel_rfl) Tryd.func4
    (witness_row_atRef (enc := enc) (C := Tryd.checked) false (laidWorld os) #[.agg #[(.string ⟨#[]⟩), (.string ⟨#[]⟩), (.string ⟨#[]⟩), (.string ⟨#[]⟩), (.int .i64 0), (.string ⟨#[]⟩), (.slice none 0 0)], .int .i64 0, .int .i64 0, .string ⟨#[]⟩, .slice none 0 0, .int .i64 0] rfl (by kernel_rfl) (by kernel_rfl) (by kernel_rfl) (witness_row os enc)) ?_
  intro W base args ds gs before hval hW _ _ hz hL _ _
  exact contract H enc W base args ds gs before hval hW hz hL
theorem said : Rows.EventDescendsSaid :=
  OpenClaim.holds_of_cond 4 Tryd.f4 rfl rfl rfl rfl rfl rfl rfl ⟨rfl, rfl, rfl, rfl, rfl⟩ rfl rfl rfl rfl rfl (by kernel_rfl) Tryd.func4 (by kernel_rfl)
    (of_decide_eq_true (by kernel_rfl)) (by unfold Func.isWrapper; first | (rw [if_pos (by decide +kernel)]; kernel_rfl) | (rw [if_neg (by decide +kernel)]; exact ⟨rfl, rfl⟩))
    (fun os started H enc _ F => by rw [OpenClaim.pre_eq_preRow]; exact lifted os started H enc F)
theorem plain (f : FuncId) (fn : Func) (hf : Tryd.pinned.checked.prog.funcNamed "faas/faaslaw24.EventDescends" = some f) (hfn : Tryd.pinned.checked.prog.funcs[f]? = some fn) :
    true = Tryd.pinned.checked.prog.looks [] ∧ ∀ (j : Nat) t, fn.params[j]? = some t → Tryd.pinned.checked.prog.wantsStandIn t = false := by
  obtain rfl : f = 4 := Option.some.inj ((show Tryd.prog.funcNamed "faas/faaslaw24.EventDescends" = some 4 by kernel_rfl).symm.trans hf) |>.symm
  obtain rfl : fn = Tryd.f4 := (Option.some.inj (Tryd.func4.symm.trans hfn)).symm
  refine ⟨by kernel_rfl, fun j t ht => ?_⟩
  rw [Tryd.params4] at ht
  have hm := Array.mem_of_getElem? ht
  have hall : ∀ t ∈ (#[24, 3, 3, 9, 22, 3] : Array TypeId), Tryd.prog.wantsStandIn t = false := by
    intro t ht
    have := List.all_eq_true.1 (show ([24, 3, 3, 9, 22, 3] : List TypeId).all (fun t => !Tryd.prog.wantsStandIn t) = true by kernel_rfl) t (by simpa using ht)
    simpa using this
  exact hall t hm
theorem card : Rows.EventDescendsCardSaid :=
  Claim7.holds_tied_plain_at .later [] _ _ _ _ said (fun _ h => by cases h) (by kernel_rfl) (fun _ h => by cases h) eventDescends_row_tie rfl ⟨rfl, rfl⟩ (by kernel_rfl) rfl plain (by kernel_rfl)
end Go.Proofs.YtpmiamphppcfeaaDoor.lawEventDescends
namespace Go.Proofs.YtpmiamphppcfeaaDoor
theorem eventDescends_card : Rows.EventDescendsCardSaid := lawEventDescends.card
end Go.Proofs.YtpmiamphppcfeaaDoor
#print axioms Go.Proofs.YtpmiamphppcfeaaDoor.eventDescends_card
