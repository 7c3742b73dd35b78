/-
  The Or TimerNil holds of the given program for every input.
-/
import Derived.Test.YtkoiaconljdbeaaDoorTN3
namespace Go.Proofs.YtkoiaconljdbeaaDoor.lawTimerNil
open Go Go.Proofs.YtkoiaconljdbeaaDoor.Q Go.ChangeShapes Go.WideShapes Go.ChangeAt Go.RowKit
open Go.ChangeMaps (open_string)
set_option linter.unusedVariables false
set_option linter.unusedSimpArgs false
set_option maxRecDepth 100000
theorem opn3 : EW Tryd.prog 3 L0 (Cs .i64) := EW.int Tryd.underlying3 (fun _ => rfl)
theorem opn9 : EW Tryd.prog 9 eS LA := EW.str Tryd.underlying9 (fun _ => rfl)
theorem opn68 : EW Tryd.prog 68 L0 (Cs .i64) := EW.int Tryd.underlying68 (fun _ => rfl)
-- struct Ac
theorem opn70 : EW Tryd.prog 70 Ah KZ := fun h => by
  obtain ⟨xs, k, _, _, hlen, hxl, hf⟩ := DataW.trod_struct Tryd.underlying70 h
  have hxl : xs.length = 4 := hxl
  have ct : Tryd.prog.cellsOf 70 = 4 := by kernel_rfl
  rw [ct] at hlen
  have g0 : DataW.trod _ _ _ _ _ _ _ 68 ((List.drop 0 _).take (Tryd.prog.cellsOf 68)) = _ := hf 0 _ rfl
  have c0 : Tryd.prog.cellsOf 68 = 1 := by kernel_rfl
  rw [c0, List.getElem?_eq_getElem (by omega)] at g0
  obtain ⟨y0, o0, r0⟩ := opn68 g0
  have g1 : DataW.trod _ _ _ _ _ _ _ 3 ((List.drop 1 _).take (Tryd.prog.cellsOf 3)) = _ := hf 1 _ rfl
  have c1 : Tryd.prog.cellsOf 3 = 1 := by kernel_rfl
  rw [c1, List.getElem?_eq_getElem (by omega)] at g1
  obtain ⟨y1, o1, r1⟩ := opn3 g1
  have g2 : DataW.trod _ _ _ _ _ _ _ 9 ((List.drop 2 _).take (Tryd.prog.cellsOf 9)) = _ := hf 2 _ rfl
  have c2 : Tryd.prog.cellsOf 9 = 1 := by kernel_rfl
  rw [c2, List.getElem?_eq_getElem (by omega)] at g2
  obtain ⟨y2, o2, r2⟩ := opn9 g2
  have g3 : DataW.trod _ _ _ _ _ _ _ 3 ((List.drop 3 _).take (Tryd.prog.cellsOf 3)) = _ := hf 3 _ rfl
  have c3 : Tryd.prog.cellsOf 3 = 1 := by kernel_rfl
  rw [c3, List.getElem?_eq_getElem (by omega)] at g3
  obtain ⟨y3, o3, r3⟩ := opn3 g3
  refine ⟨⟨y0, y1, y2, y3⟩, by simp only [KZ, o0, o1, o2, o3, Bool.and_self], ?_⟩
  exact (B9 r0 rfl (B9 r1 rfl (B9 r2 rfl (B9 r3 rfl (H0 hlen)))))
theorem opn31 : EW Tryd.prog 31 (fun ys : (List Ac) => [B0 4 (ys.map Ah)]) (fun ys : (List Ac) => ys.all KZ && decide (ys.length ≤ 9223372036854775807)) := EW.slice Tryd.underlying31 (by kernel_rfl) (by decide) opn70 C2 (fun _ => rfl)
-- struct Ab
theorem opn33 : EW Tryd.prog 33 Af Md := fun h => by
  obtain ⟨xs, k, _, _, hlen, hxl, hf⟩ := DataW.trod_struct Tryd.underlying33 h
  have hxl : xs.length = 5 := hxl
  have ct : Tryd.prog.cellsOf 33 = 5 := by kernel_rfl
  rw [ct] at hlen
  have g0 : DataW.trod _ _ _ _ _ _ _ 9 ((List.drop 0 _).take (Tryd.prog.cellsOf 9)) = _ := hf 0 _ rfl
  have c0 : Tryd.prog.cellsOf 9 = 1 := by kernel_rfl
  rw [c0, List.getElem?_eq_getElem (by omega)] at g0
  obtain ⟨y0, o0, r0⟩ := opn9 g0
  have g1 : DataW.trod _ _ _ _ _ _ _ 3 ((List.drop 1 _).take (Tryd.prog.cellsOf 3)) = _ := hf 1 _ rfl
  have c1 : Tryd.prog.cellsOf 3 = 1 := by kernel_rfl
  rw [c1, List.getElem?_eq_getElem (by omega)] at g1
  obtain ⟨y1, o1, r1⟩ := opn3 g1
  have g2 : DataW.trod _ _ _ _ _ _ _ 9 ((List.drop 2 _).take (Tryd.prog.cellsOf 9)) = _ := hf 2 _ rfl
  have c2 : Tryd.prog.cellsOf 9 = 1 := by kernel_rfl
  rw [c2, List.getElem?_eq_getElem (by omega)] at g2
  obtain ⟨y2, o2, r2⟩ := opn9 g2
  have g3 : DataW.trod _ _ _ _ _ _ _ 9 ((List.drop 3 _).take (Tryd.prog.cellsOf 9)) = _ := hf 3 _ rfl
  have c3 : Tryd.prog.cellsOf 9 = 1 := by kernel_rfl
  rw [c3, List.getElem?_eq_getElem (by omega)] at g3
  obtain ⟨y3, o3, r3⟩ := opn9 g3
  have g4 : DataW.trod _ _ _ _ _ _ _ 31 ((List.drop 4 _).take (Tryd.prog.cellsOf 31)) = _ := hf 4 _ rfl
  have c4 : Tryd.prog.cellsOf 31 = 1 := by kernel_rfl
  rw [c4, List.getElem?_eq_getElem (by omega)] at g4
  obtain ⟨y4, o4, r4⟩ := opn31 g4
  refine ⟨⟨y0, y1, y2, y3, y4⟩, by simp only [Md, o0, o1, o2, o3, o4, Bool.and_self], ?_⟩
  exact (B9 r0 rfl (B9 r1 rfl (B9 r2 rfl (B9 r3 rfl (B9 r4 rfl (H0 hlen))))))
-- struct AH
theorem opn41 : EW Tryd.prog 41 AA La := fun h => by
  obtain ⟨xs, k, _, _, hlen, hxl, hf⟩ := DataW.trod_struct Tryd.underlying41 h
  have hxl : xs.length = 3 := hxl
  have ct : Tryd.prog.cellsOf 41 = 7 := by kernel_rfl
  rw [ct] at hlen
  have g0 : DataW.trod _ _ _ _ _ _ _ 3 ((List.drop 0 _).take (Tryd.prog.cellsOf 3)) = _ := hf 0 _ rfl
  have c0 : Tryd.prog.cellsOf 3 = 1 := by kernel_rfl
  rw [c0, List.getElem?_eq_getElem (by omega)] at g0
  obtain ⟨y0, o0, r0⟩ := opn3 g0
  have g1 : DataW.trod _ _ _ _ _ _ _ 3 ((List.drop 1 _).take (Tryd.prog.cellsOf 3)) = _ := hf 1 _ rfl
  have c1 : Tryd.prog.cellsOf 3 = 1 := by kernel_rfl
  rw [c1, List.getElem?_eq_getElem (by omega)] at g1
  obtain ⟨y1, o1, r1⟩ := opn3 g1
  have g2 : DataW.trod _ _ _ _ _ _ _ 33 ((List.drop 2 _).take (Tryd.prog.cellsOf 33)) = _ := hf 2 _ rfl
  have c2 : Tryd.prog.cellsOf 33 = 5 := by kernel_rfl
  rw [c2, List.getElem?_eq_getElem (by omega)] at g2
  obtain ⟨y2, o2, r2⟩ := opn33 g2
  refine ⟨⟨y0, y1, y2⟩, by simp only [La, o0, o1, o2, Bool.and_self], ?_⟩
  exact (B9 r0 rfl (B9 r1 rfl (B9 r2 rfl (H0 hlen))))
theorem contract (H : Type) (enc : TypeId × Value → H) (W : World) (base : Nat) (args : Array Value) (ds gs : List (DataW H)) (before : List MemPlace)
    (hval : ∀ (j : Nat) t v, Tryd.f5.params[j]? = some t → args[j]? = some v → Value.okWide Tryd.prog W .any base t v)
    (hW : DataW.Whole enc Tryd.prog Tryd.f5.params.toList Rows.timerNilSpec.vars false W args.toList ds gs before)
    (hz : (DataW.weightsEach Tryd.prog (Tryd.f5.params.toList ++ []) (ds ++ gs)).all (· ≤ reachBytes) = true) (hL : laidMet Tryd.prog G8 W) :
    Calls Tryd.prog 5 args W fun e W' => ∃ v, e = .returned v ∧ Rows.timerNilSpec.post enc Tryd.prog Tryd.f5 false true false false W args v W' := by
  have hE := Nl hL
  have hW' := hW
  obtain ⟨p, q, hA0, hV, hbf, hfz, hnd⟩ := hW
  have hA : DataW.TrodAll enc Tryd.prog W 0 (fun _ => true) true Tryd.f5.params.toList args.toList ds p := hA0
  rw [Tryd.params5] at hA hval hz
  obtain ⟨rfl, rfl⟩ := trodVars_none hV
  obtain ⟨v0, vs0, d0, ds0, p0, q0, hargs, hd0, hq0, h0, r0⟩ := trodAll_cons hA
  obtain ⟨hvn, hdn, hqn⟩ := trodAll_nil r0
  obtain rfl : args = #[v0] := by cases args; simp_all
  obtain rfl : ds = [d0] := by simp_all
  obtain ⟨a0, e0, _⟩ := okWide_struct Tryd.underlying41 (hval 0 41 v0 rfl rfl)
  obtain ⟨y0, oy0, hr0⟩ := EW.valAgg (opn41) (by rw [e0] at h0; exact h0)
  rw [← e0] at hr0
  obtain ⟨F, hF⟩ := Or y0 oy0
  refine (Nd F y0 true hF W (ZW W) [v0] ⟨hr0, trivial⟩ (KH hE)).mono fun e W' ⟨R, v, Ho, Z', he, ⟨hR, _⟩, hp, hs⟩ => ?_
  subst hR
  obtain rfl : v = .bool true := hp
  exact ⟨_, he, JW Mk (by kernel_rfl) rfl rfl Jg hW' rfl rfl rfl (KI hs)⟩
theorem witness_row (os : Os) {H : Type} (enc : TypeId × Value → H) :
    (OpenSpec.ofChange Rows.timerNilSpec).preRow enc Tryd.prog Tryd.f5 Rows.timerNilRow.domain false Rows.timerNilRow.laid ((DC os).forCall (fun _ _ => 0) ⟨#[], #[.agg #[(.int .i64 0), (.int .i64 0), (.string ⟨#[]⟩), (.int .i64 0), (.string ⟨#[]⟩), (.string ⟨#[]⟩), (.slice none 0 0)]], []⟩).memory #[.agg #[(.int .i64 0), (.int .i64 0), (.string ⟨#[]⟩), (.int .i64 0), (.string ⟨#[]⟩), (.string ⟨#[]⟩), (.slice none 0 0)]] := by
  have hw : (DataW.whole enc Tryd.prog ((DC os).forCall (fun _ _ => 0) ⟨#[], #[.agg #[(.int .i64 0), (.int .i64 0), (.string ⟨#[]⟩), (.int .i64 0), (.string ⟨#[]⟩), (.string ⟨#[]⟩), (.slice none 0 0)]], []⟩).memory Tryd.f5.params.toList Rows.timerNilSpec.vars false #[.agg #[(.int .i64 0), (.int .i64 0), (.string ⟨#[]⟩), (.int .i64 0), (.string ⟨#[]⟩), (.string ⟨#[]⟩), (.slice none 0 0)]].toList 8).map (fun x => (x.1, x.2.1)) =
      some ([.agg [.lit (.int .i64 0), .lit (.int .i64 0), .agg [.lit (.string []), .lit (.int .i64 0), .lit (.string []), .lit (.string []), .nil]]], []) := by kernel_rfl
  obtain ⟨⟨x1, x2, x3⟩, hx, hx1⟩ := Option.map_eq_some_iff.1 hw
  simp only [Prod.mk.injEq] at hx1
  obtain ⟨rfl, rfl⟩ := hx1
  exact OpenSpec.preRow_of_cond 8 hx (by kernel_rfl) (fun k hk => by cases hk) (by kernel_rfl) (Lp os _)
theorem lifted (os : Os) (started : os.Started) (H : Type) (enc : TypeId × Value → H) (F : Stop.Interp) :
    ReturnsInHanded {} Tryd.checked os 5 .any ((OpenSpec.ofChange Rows.timerNilSpec).preRow enc Tryd.prog Tryd.f5 Rows.timerNilRow.domain false Rows.timerNilRow.laid) (((OpenSpec.ofChange Rows.timerNilSpec).at F).post enc Tryd.prog Tryd.f5 false true false false) := by
  refine returnsInHanded_of_row (C := Tryd.checked) (s := (OpenSpec.ofChange Rows.timerNilSpec)) own started (by kernel_rfl) Tryd.func5
    (witness_row_atRef (enc := enc) (C := Tryd.checked) false (DC os) #[.agg #[(.int .i64 0), (.int .i64 0), (.string ⟨#[]⟩), (.int .i64 0), (.string ⟨#[]⟩), (.string ⟨#[]⟩), (.slice none 0 0)]] rfl (by kernel_rfl) (by kernel_rfl) (by kernel_rfl) (witness_row os enc)) ?_
  intro W base args ds gs before hval hW _ _ hz hL _ _
  exact contract H enc W base args ds gs before hval hW hz hL
theorem said : Rows.TimerNilSaid :=
  OpenClaim.holds_of_cond 5 Tryd.f5 rfl rfl rfl rfl rfl rfl rfl ⟨rfl, rfl, rfl, rfl, rfl⟩ rfl rfl rfl rfl rfl (by kernel_rfl) Tryd.func5 (by kernel_rfl)
    (of_decide_eq_true (by kernel_rfl)) (by unfold Func.isWrapper; first | (rw [if_pos (by decide +kernel)]; kernel_rfl) | (rw [if_neg (by decide +kernel)]; exact ⟨rfl, rfl⟩))
    (fun os started H enc _ F => by rw [OpenClaim.pre_eq_preRow]; exact lifted os started H enc F)
theorem plain (f : FuncId) (fn : Func) (hf : Tryd.pinned.checked.prog.funcNamed "faas/faaslaw49.TimerNil" = some f) (hfn : Tryd.pinned.checked.prog.funcs[f]? = some fn) :
    false = Tryd.pinned.checked.prog.looks [] ∧ ∀ (j : Nat) t, fn.params[j]? = some t → Tryd.pinned.checked.prog.wantsStandIn t = false := by
  obtain rfl : f = 5 := Option.some.inj ((show Tryd.prog.funcNamed "faas/faaslaw49.TimerNil" = some 5 by kernel_rfl).symm.trans hf) |>.symm
  obtain rfl : fn = Tryd.f5 := (Option.some.inj (Tryd.func5.symm.trans hfn)).symm
  refine ⟨by kernel_rfl, fun j t ht => ?_⟩
  rw [Tryd.params5] at ht
  have hm := Array.mem_of_getElem? ht
  have hall : ∀ t ∈ (#[41] : Array TypeId), Tryd.prog.wantsStandIn t = false := by
    intro t ht
    have := List.all_eq_true.1 (show ([41] : List TypeId).all (fun t => !Tryd.prog.wantsStandIn t) = true by kernel_rfl) t (by simpa using ht)
    simpa using this
  exact hall t hm
theorem card : Rows.TimerNilCardSaid :=
  Claim7.holds_tied_plain_at .later [] _ _ _ _ said (fun _ h => by cases h) (by kernel_rfl) (fun _ h => by cases h) timerNil_row_tie rfl ⟨rfl, rfl⟩ (by kernel_rfl) rfl plain (by kernel_rfl)
end Go.Proofs.YtkoiaconljdbeaaDoor.lawTimerNil
namespace Go.Proofs.YtkoiaconljdbeaaDoor
theorem timerNil_card : Rows.TimerNilCardSaid := lawTimerNil.card
end Go.Proofs.YtkoiaconljdbeaaDoor
#print axioms Go.Proofs.YtkoiaconljdbeaaDoor.timerNil_card
