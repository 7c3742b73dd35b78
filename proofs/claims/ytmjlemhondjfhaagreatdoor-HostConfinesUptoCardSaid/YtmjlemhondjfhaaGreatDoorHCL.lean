/-
  The law HostConfines holds of the given program for every input of the bulk that the second form names.
-/
import Derived.Test.YtmjlemhondjfhaaGreatDoorHC6
namespace Go.Proofs.YtmjlemhondjfhaaGreatDoor.lawHostConfines
open Go Go.Proofs.YtmjlemhondjfhaaGreatDoor.Q Go.ChangeShapes Go.WideShapes Go.ChangeAt Go.RowKit
open Go.ChangeMaps (open_string)
set_option linter.unusedVariables false
set_option linter.unusedSimpArgs false
set_option maxRecDepth 100000
theorem opn9 : D6 Tryz.prog 9 eS Hg := D6.str Tryz.underlying9 (fun _ => rfl)
theorem opn22 : D6 Tryz.prog 22 (fun ys : (List Ah) => [AJ 1 (ys.map eS)]) (fun ys : (List Ah) => ys.all Hg && decide (ys.length ≤ 1048576)) := D6.slice Tryz.underlying22 (by kernel_rfl) (by decide) opn9 Eg (fun _ => rfl)
theorem opn4 : D6 Tryz.prog 4 eB (fun _ => true) := D6.bool Tryz.underlying4 (fun _ => rfl)
-- struct Ad
theorem opn100 : D6 Tryz.prog 100 Ai W6 := fun h hB => by
  obtain ⟨xs, k, _, hxe, hlen, hxl, hf⟩ := DataW.trod_struct Tryz.underlying100 h
  rw [hxe] at hB
  have hxl : xs.length = 3 := hxl
  have ct : Tryz.prog.cellsOf 100 = 3 := by kernel_rfl
  rw [ct] at hlen
  have g0 : DataW.trod _ _ _ _ _ _ _ 4 ((List.drop 0 _).take (Tryz.prog.cellsOf 4)) = _ := hf 0 _ rfl
  have c0 : Tryz.prog.cellsOf 4 = 1 := by kernel_rfl
  rw [c0, List.getElem?_eq_getElem (by omega)] at g0
  obtain ⟨y0, o0, r0⟩ := opn4 g0 (BJ (by omega) hB)
  have g1 : DataW.trod _ _ _ _ _ _ _ 22 ((List.drop 1 _).take (Tryz.prog.cellsOf 22)) = _ := hf 1 _ rfl
  have c1 : Tryz.prog.cellsOf 22 = 1 := by kernel_rfl
  rw [c1, List.getElem?_eq_getElem (by omega)] at g1
  obtain ⟨y1, o1, r1⟩ := opn22 g1 (BJ (by omega) hB)
  have g2 : DataW.trod _ _ _ _ _ _ _ 22 ((List.drop 2 _).take (Tryz.prog.cellsOf 22)) = _ := hf 2 _ rfl
  have c2 : Tryz.prog.cellsOf 22 = 1 := by kernel_rfl
  rw [c2, List.getElem?_eq_getElem (by omega)] at g2
  obtain ⟨y2, o2, r2⟩ := opn22 g2 (BJ (by omega) hB)
  refine ⟨⟨y0, y1, y2⟩, by simp only [W6, o0, o1, o2, Bool.and_self], ?_⟩
  exact (Ca r0 rfl (Ca r1 rfl (Ca r2 rfl (IM hlen))))
theorem opn23 : D6 Tryz.prog 23 (fun ys : (List Ad) => [AJ 3 (ys.map Ai)]) (fun ys : (List Ad) => ys.all W6 && decide (ys.length ≤ 1048576)) := D6.slice Tryz.underlying23 (by kernel_rfl) (by decide) opn100 Eu (fun _ => rfl)
theorem opn3 : D6 Tryz.prog 3 Aan (BM .i64) := D6.int Tryz.underlying3 (fun _ => rfl)
-- struct AD
theorem opn111 : D6 Tryz.prog 111 Au W4 := fun h hB => by
  obtain ⟨xs, k, _, hxe, hlen, hxl, hf⟩ := DataW.trod_struct Tryz.underlying111 h
  rw [hxe] at hB
  have hxl : xs.length = 5 := hxl
  have ct : Tryz.prog.cellsOf 111 = 5 := by kernel_rfl
  rw [ct] at hlen
  have g0 : DataW.trod _ _ _ _ _ _ _ 4 ((List.drop 0 _).take (Tryz.prog.cellsOf 4)) = _ := hf 0 _ rfl
  have c0 : Tryz.prog.cellsOf 4 = 1 := by kernel_rfl
  rw [c0, List.getElem?_eq_getElem (by omega)] at g0
  obtain ⟨y0, o0, r0⟩ := opn4 g0 (BJ (by omega) hB)
  have g1 : DataW.trod _ _ _ _ _ _ _ 3 ((List.drop 1 _).take (Tryz.prog.cellsOf 3)) = _ := hf 1 _ rfl
  have c1 : Tryz.prog.cellsOf 3 = 1 := by kernel_rfl
  rw [c1, List.getElem?_eq_getElem (by omega)] at g1
  obtain ⟨y1, o1, r1⟩ := opn3 g1 (BJ (by omega) hB)
  have g2 : DataW.trod _ _ _ _ _ _ _ 3 ((List.drop 2 _).take (Tryz.prog.cellsOf 3)) = _ := hf 2 _ rfl
  have c2 : Tryz.prog.cellsOf 3 = 1 := by kernel_rfl
  rw [c2, List.getElem?_eq_getElem (by omega)] at g2
  obtain ⟨y2, o2, r2⟩ := opn3 g2 (BJ (by omega) hB)
  have g3 : DataW.trod _ _ _ _ _ _ _ 3 ((List.drop 3 _).take (Tryz.prog.cellsOf 3)) = _ := hf 3 _ rfl
  have c3 : Tryz.prog.cellsOf 3 = 1 := by kernel_rfl
  rw [c3, List.getElem?_eq_getElem (by omega)] at g3
  obtain ⟨y3, o3, r3⟩ := opn3 g3 (BJ (by omega) hB)
  have g4 : DataW.trod _ _ _ _ _ _ _ 3 ((List.drop 4 _).take (Tryz.prog.cellsOf 3)) = _ := hf 4 _ rfl
  have c4 : Tryz.prog.cellsOf 3 = 1 := by kernel_rfl
  rw [c4, List.getElem?_eq_getElem (by omega)] at g4
  obtain ⟨y4, o4, r4⟩ := opn3 g4 (BJ (by omega) hB)
  refine ⟨⟨y0, y1, y2, y3, y4⟩, by simp only [W4, o0, o1, o2, o3, o4, Bool.and_self], ?_⟩
  exact (Ca r0 rfl (Ca r1 rfl (Ca r2 rfl (Ca r3 rfl (Ca r4 rfl (IM hlen))))))
theorem opn24 : D6 Tryz.prog 24 (fun ys : (List AD) => [AJ 5 (ys.map Au)]) (fun ys : (List AD) => ys.all W4 && decide (ys.length ≤ 1048576)) := D6.slice Tryz.underlying24 (by kernel_rfl) (by decide) opn111 Hv (fun _ => rfl)
-- struct AT
theorem opn26 : D6 Tryz.prog 26 B9 AcL := fun h hB => by
  obtain ⟨xs, k, _, hxe, hlen, hxl, hf⟩ := DataW.trod_struct Tryz.underlying26 h
  rw [hxe] at hB
  have hxl : xs.length = 6 := hxl
  have ct : Tryz.prog.cellsOf 26 = 6 := by kernel_rfl
  rw [ct] at hlen
  have g0 : DataW.trod _ _ _ _ _ _ _ 9 ((List.drop 0 _).take (Tryz.prog.cellsOf 9)) = _ := hf 0 _ rfl
  have c0 : Tryz.prog.cellsOf 9 = 1 := by kernel_rfl
  rw [c0, List.getElem?_eq_getElem (by omega)] at g0
  obtain ⟨y0, o0, r0⟩ := opn9 g0 (BJ (by omega) hB)
  have g1 : DataW.trod _ _ _ _ _ _ _ 9 ((List.drop 1 _).take (Tryz.prog.cellsOf 9)) = _ := hf 1 _ rfl
  have c1 : Tryz.prog.cellsOf 9 = 1 := by kernel_rfl
  rw [c1, List.getElem?_eq_getElem (by omega)] at g1
  obtain ⟨y1, o1, r1⟩ := opn9 g1 (BJ (by omega) hB)
  have g2 : DataW.trod _ _ _ _ _ _ _ 22 ((List.drop 2 _).take (Tryz.prog.cellsOf 22)) = _ := hf 2 _ rfl
  have c2 : Tryz.prog.cellsOf 22 = 1 := by kernel_rfl
  rw [c2, List.getElem?_eq_getElem (by omega)] at g2
  obtain ⟨y2, o2, r2⟩ := opn22 g2 (BJ (by omega) hB)
  have g3 : DataW.trod _ _ _ _ _ _ _ 23 ((List.drop 3 _).take (Tryz.prog.cellsOf 23)) = _ := hf 3 _ rfl
  have c3 : Tryz.prog.cellsOf 23 = 1 := by kernel_rfl
  rw [c3, List.getElem?_eq_getElem (by omega)] at g3
  obtain ⟨y3, o3, r3⟩ := opn23 g3 (BJ (by omega) hB)
  have g4 : DataW.trod _ _ _ _ _ _ _ 24 ((List.drop 4 _).take (Tryz.prog.cellsOf 24)) = _ := hf 4 _ rfl
  have c4 : Tryz.prog.cellsOf 24 = 1 := by kernel_rfl
  rw [c4, List.getElem?_eq_getElem (by omega)] at g4
  obtain ⟨y4, o4, r4⟩ := opn24 g4 (BJ (by omega) hB)
  have g5 : DataW.trod _ _ _ _ _ _ _ 3 ((List.drop 5 _).take (Tryz.prog.cellsOf 3)) = _ := hf 5 _ rfl
  have c5 : Tryz.prog.cellsOf 3 = 1 := by kernel_rfl
  rw [c5, List.getElem?_eq_getElem (by omega)] at g5
  obtain ⟨y5, o5, r5⟩ := opn3 g5 (BJ (by omega) hB)
  refine ⟨⟨y0, y1, y2, y3, y4, y5⟩, by simp only [AcL, o0, o1, o2, o3, o4, o5, Bool.and_self], ?_⟩
  exact (Ca r0 rfl (Ca r1 rfl (Ca r2 rfl (Ca r3 rfl (Ca r4 rfl (Ca r5 rfl (IM hlen)))))))
theorem opn68 : D6 Tryz.prog 68 Aan (BM .i64) := D6.int Tryz.underlying68 (fun _ => rfl)
-- struct Ab
theorem opn70 : D6 Tryz.prog 70 Af XW := fun h hB => by
  obtain ⟨xs, k, _, hxe, hlen, hxl, hf⟩ := DataW.trod_struct Tryz.underlying70 h
  rw [hxe] at hB
  have hxl : xs.length = 4 := hxl
  have ct : Tryz.prog.cellsOf 70 = 4 := by kernel_rfl
  rw [ct] at hlen
  have g0 : DataW.trod _ _ _ _ _ _ _ 68 ((List.drop 0 _).take (Tryz.prog.cellsOf 68)) = _ := hf 0 _ rfl
  have c0 : Tryz.prog.cellsOf 68 = 1 := by kernel_rfl
  rw [c0, List.getElem?_eq_getElem (by omega)] at g0
  obtain ⟨y0, o0, r0⟩ := opn68 g0 (BJ (by omega) hB)
  have g1 : DataW.trod _ _ _ _ _ _ _ 3 ((List.drop 1 _).take (Tryz.prog.cellsOf 3)) = _ := hf 1 _ rfl
  have c1 : Tryz.prog.cellsOf 3 = 1 := by kernel_rfl
  rw [c1, List.getElem?_eq_getElem (by omega)] at g1
  obtain ⟨y1, o1, r1⟩ := opn3 g1 (BJ (by omega) hB)
  have g2 : DataW.trod _ _ _ _ _ _ _ 9 ((List.drop 2 _).take (Tryz.prog.cellsOf 9)) = _ := hf 2 _ rfl
  have c2 : Tryz.prog.cellsOf 9 = 1 := by kernel_rfl
  rw [c2, List.getElem?_eq_getElem (by omega)] at g2
  obtain ⟨y2, o2, r2⟩ := opn9 g2 (BJ (by omega) hB)
  have g3 : DataW.trod _ _ _ _ _ _ _ 3 ((List.drop 3 _).take (Tryz.prog.cellsOf 3)) = _ := hf 3 _ rfl
  have c3 : Tryz.prog.cellsOf 3 = 1 := by kernel_rfl
  rw [c3, List.getElem?_eq_getElem (by omega)] at g3
  obtain ⟨y3, o3, r3⟩ := opn3 g3 (BJ (by omega) hB)
  refine ⟨⟨y0, y1, y2, y3⟩, by simp only [XW, o0, o1, o2, o3, Bool.and_self], ?_⟩
  exact (Ca r0 rfl (Ca r1 rfl (Ca r2 rfl (Ca r3 rfl (IM hlen)))))
theorem opn50 : D6 Tryz.prog 50 (fun ys : (List Ab) => [AJ 4 (ys.map Af)]) (fun ys : (List Ab) => ys.all XW && decide (ys.length ≤ 1048576)) := D6.slice Tryz.underlying50 (by kernel_rfl) (by decide) opn70 Dw (fun _ => rfl)
-- struct B3
theorem opn72 : D6 Tryz.prog 72 BG Abn := fun h hB => by
  obtain ⟨xs, k, _, hxe, hlen, hxl, hf⟩ := DataW.trod_struct Tryz.underlying72 h
  rw [hxe] at hB
  have hxl : xs.length = 3 := hxl
  have ct : Tryz.prog.cellsOf 72 = 3 := by kernel_rfl
  rw [ct] at hlen
  have g0 : DataW.trod _ _ _ _ _ _ _ 9 ((List.drop 0 _).take (Tryz.prog.cellsOf 9)) = _ := hf 0 _ rfl
  have c0 : Tryz.prog.cellsOf 9 = 1 := by kernel_rfl
  rw [c0, List.getElem?_eq_getElem (by omega)] at g0
  obtain ⟨y0, o0, r0⟩ := opn9 g0 (BJ (by omega) hB)
  have g1 : DataW.trod _ _ _ _ _ _ _ 50 ((List.drop 1 _).take (Tryz.prog.cellsOf 50)) = _ := hf 1 _ rfl
  have c1 : Tryz.prog.cellsOf 50 = 1 := by kernel_rfl
  rw [c1, List.getElem?_eq_getElem (by omega)] at g1
  obtain ⟨y1, o1, r1⟩ := opn50 g1 (BJ (by omega) hB)
  have g2 : DataW.trod _ _ _ _ _ _ _ 3 ((List.drop 2 _).take (Tryz.prog.cellsOf 3)) = _ := hf 2 _ rfl
  have c2 : Tryz.prog.cellsOf 3 = 1 := by kernel_rfl
  rw [c2, List.getElem?_eq_getElem (by omega)] at g2
  obtain ⟨y2, o2, r2⟩ := opn3 g2 (BJ (by omega) hB)
  refine ⟨⟨y0, y1, y2⟩, by simp only [Abn, o0, o1, o2, Bool.and_self], ?_⟩
  exact (Ca r0 rfl (Ca r1 rfl (Ca r2 rfl (IM hlen))))
theorem opn35 : D6 Tryz.prog 35 (fun ys : (List B3) => [AJ 3 (ys.map BG)]) (fun ys : (List B3) => ys.all Abn && decide (ys.length ≤ 1048576)) := D6.slice Tryz.underlying35 (by kernel_rfl) (by decide) opn72 Md (fun _ => rfl)
-- struct Cl
theorem opn106 : D6 Tryz.prog 106 A8 W5 := fun h hB => by
  obtain ⟨xs, k, _, hxe, hlen, hxl, hf⟩ := DataW.trod_struct Tryz.underlying106 h
  rw [hxe] at hB
  have hxl : xs.length = 3 := hxl
  have ct : Tryz.prog.cellsOf 106 = 3 := by kernel_rfl
  rw [ct] at hlen
  have g0 : DataW.trod _ _ _ _ _ _ _ 9 ((List.drop 0 _).take (Tryz.prog.cellsOf 9)) = _ := hf 0 _ rfl
  have c0 : Tryz.prog.cellsOf 9 = 1 := by kernel_rfl
  rw [c0, List.getElem?_eq_getElem (by omega)] at g0
  obtain ⟨y0, o0, r0⟩ := opn9 g0 (BJ (by omega) hB)
  have g1 : DataW.trod _ _ _ _ _ _ _ 9 ((List.drop 1 _).take (Tryz.prog.cellsOf 9)) = _ := hf 1 _ rfl
  have c1 : Tryz.prog.cellsOf 9 = 1 := by kernel_rfl
  rw [c1, List.getElem?_eq_getElem (by omega)] at g1
  obtain ⟨y1, o1, r1⟩ := opn9 g1 (BJ (by omega) hB)
  have g2 : DataW.trod _ _ _ _ _ _ _ 9 ((List.drop 2 _).take (Tryz.prog.cellsOf 9)) = _ := hf 2 _ rfl
  have c2 : Tryz.prog.cellsOf 9 = 1 := by kernel_rfl
  rw [c2, List.getElem?_eq_getElem (by omega)] at g2
  obtain ⟨y2, o2, r2⟩ := opn9 g2 (BJ (by omega) hB)
  refine ⟨⟨y0, y1, y2⟩, by simp only [W5, o0, o1, o2, Bool.and_self], ?_⟩
  exact (Ca r0 rfl (Ca r1 rfl (Ca r2 rfl (IM hlen))))
theorem opn36 : D6 Tryz.prog 36 (fun ys : (List Cl) => [AJ 3 (ys.map A8)]) (fun ys : (List Cl) => ys.all W5 && decide (ys.length ≤ 1048576)) := D6.slice Tryz.underlying36 (by kernel_rfl) (by decide) opn106 KB (fun _ => rfl)
theorem opn27 : D6 Tryz.prog 27 (fun ys : (List (List Ab)) => [AJ 1 (ys.map Bb)]) (fun ys : (List (List Ab)) => ys.all (fun ys : (List Ab) => ys.all XW && decide (ys.length ≤ 1048576)) && decide (ys.length ≤ 1048576)) := D6.slice Tryz.underlying27 (by kernel_rfl) (by decide) opn50 CT (fun _ => rfl)
-- struct AR
theorem opn29 : D6 Tryz.prog 29 AN Abo := fun h hB => by
  obtain ⟨xs, k, _, hxe, hlen, hxl, hf⟩ := DataW.trod_struct Tryz.underlying29 h
  rw [hxe] at hB
  have hxl : xs.length = 2 := hxl
  have ct : Tryz.prog.cellsOf 29 = 2 := by kernel_rfl
  rw [ct] at hlen
  have g0 : DataW.trod _ _ _ _ _ _ _ 9 ((List.drop 0 _).take (Tryz.prog.cellsOf 9)) = _ := hf 0 _ rfl
  have c0 : Tryz.prog.cellsOf 9 = 1 := by kernel_rfl
  rw [c0, List.getElem?_eq_getElem (by omega)] at g0
  obtain ⟨y0, o0, r0⟩ := opn9 g0 (BJ (by omega) hB)
  have g1 : DataW.trod _ _ _ _ _ _ _ 27 ((List.drop 1 _).take (Tryz.prog.cellsOf 27)) = _ := hf 1 _ rfl
  have c1 : Tryz.prog.cellsOf 27 = 1 := by kernel_rfl
  rw [c1, List.getElem?_eq_getElem (by omega)] at g1
  obtain ⟨y1, o1, r1⟩ := opn27 g1 (BJ (by omega) hB)
  refine ⟨⟨y0, y1⟩, by simp only [Abo, o0, o1, Bool.and_self], ?_⟩
  exact (Ca r0 rfl (Ca r1 rfl (IM hlen)))
theorem opn37 : D6 Tryz.prog 37 (fun ys : (List AR) => [AJ 2 (ys.map AN)]) (fun ys : (List AR) => ys.all Abo && decide (ys.length ≤ 1048576)) := D6.slice Tryz.underlying37 (by kernel_rfl) (by decide) opn29 Ol (fun _ => rfl)
-- struct B1
theorem opn39 : D6 Tryz.prog 39 Bi AcK := fun h hB => by
  obtain ⟨xs, k, _, hxe, hlen, hxl, hf⟩ := DataW.trod_struct Tryz.underlying39 h
  rw [hxe] at hB
  have hxl : xs.length = 5 := hxl
  have ct : Tryz.prog.cellsOf 39 = 10 := by kernel_rfl
  rw [ct] at hlen
  have g0 : DataW.trod _ _ _ _ _ _ _ 26 ((List.drop 0 _).take (Tryz.prog.cellsOf 26)) = _ := hf 0 _ rfl
  have c0 : Tryz.prog.cellsOf 26 = 6 := by kernel_rfl
  rw [c0, List.getElem?_eq_getElem (by omega)] at g0
  obtain ⟨y0, o0, r0⟩ := opn26 g0 (BJ (by omega) hB)
  have g1 : DataW.trod _ _ _ _ _ _ _ 35 ((List.drop 6 _).take (Tryz.prog.cellsOf 35)) = _ := hf 1 _ rfl
  have c1 : Tryz.prog.cellsOf 35 = 1 := by kernel_rfl
  rw [c1, List.getElem?_eq_getElem (by omega)] at g1
  obtain ⟨y1, o1, r1⟩ := opn35 g1 (BJ (by omega) hB)
  have g2 : DataW.trod _ _ _ _ _ _ _ 36 ((List.drop 7 _).take (Tryz.prog.cellsOf 36)) = _ := hf 2 _ rfl
  have c2 : Tryz.prog.cellsOf 36 = 1 := by kernel_rfl
  rw [c2, List.getElem?_eq_getElem (by omega)] at g2
  obtain ⟨y2, o2, r2⟩ := opn36 g2 (BJ (by omega) hB)
  have g3 : DataW.trod _ _ _ _ _ _ _ 4 ((List.drop 8 _).take (Tryz.prog.cellsOf 4)) = _ := hf 3 _ rfl
  have c3 : Tryz.prog.cellsOf 4 = 1 := by kernel_rfl
  rw [c3, List.getElem?_eq_getElem (by omega)] at g3
  obtain ⟨y3, o3, r3⟩ := opn4 g3 (BJ (by omega) hB)
  have g4 : DataW.trod _ _ _ _ _ _ _ 37 ((List.drop 9 _).take (Tryz.prog.cellsOf 37)) = _ := hf 4 _ rfl
  have c4 : Tryz.prog.cellsOf 37 = 1 := by kernel_rfl
  rw [c4, List.getElem?_eq_getElem (by omega)] at g4
  obtain ⟨y4, o4, r4⟩ := opn37 g4 (BJ (by omega) hB)
  refine ⟨⟨y0, y1, y2, y3, y4⟩, by simp only [AcK, o0, o1, o2, o3, o4, Bool.and_self], ?_⟩
  exact (Ca r0 rfl (Ca r1 rfl (Ca r2 rfl (Ca r3 rfl (Ca r4 rfl (IM hlen))))))
theorem contract (H : Type) (enc : TypeId × Value → H) (W : World) (base : Nat) (args : Array Value) (ds gs : List (DataW H)) (before : List MemPlace)
    (hval : ∀ (j : Nat) t v, Tryz.f4.params[j]? = some t → args[j]? = some v → Value.okWide Tryz.prog W .any base t v)
    (hW : DataW.Whole enc Tryz.prog Tryz.f4.params.toList Rows.hostConfinesSpec.vars false W args.toList ds gs before)
    (hk : ∀ k, ((Rows.OpenSpec.upto Rows.hostConfinesSpec)).cond = some k → k H (ds ++ gs) = true)
    (hz : (DataW.weightsEach Tryz.prog (Tryz.f4.params.toList ++ []) (ds ++ gs)).all (· ≤ reachBytes) = true) (hL : laidMet Tryz.prog Qt W) :
    Calls Tryz.prog 4 args W fun e W' => ∃ v, e = .returned v ∧ Rows.hostConfinesSpec.post enc Tryz.prog Tryz.f4 false true false false W args v W' := by
  have hE := Adn hL
  have hW' := hW
  obtain ⟨p, q, hA0, hV, hbf, hfz, hnd⟩ := hW
  have hA : DataW.TrodAll enc Tryz.prog W 0 (fun _ => true) true Tryz.f4.params.toList args.toList ds p := hA0
  rw [Tryz.params4] at hA hval hz
  obtain ⟨rfl, rfl⟩ := trodVars_none hV
  obtain ⟨v0, vs0, d0, ds0, p0, q0, hargs, hd0, hq0, h0, r0⟩ := trodAll_cons hA
  obtain ⟨hvn, hdn, hqn⟩ := trodAll_nil r0
  obtain rfl : args = #[v0] := by cases args; simp_all
  obtain rfl : ds = [d0] := by simp_all
  have hB : Rows.uptoBulkAll [d0] ≤ 1048576 := of_decide_eq_true (hk _ rfl)
  have hB0 : Rows.uptoBulk d0 ≤ 1048576 := Nat.le_trans (NA (by simp)) hB
  obtain ⟨a0, e0, _⟩ := okWide_struct Tryz.underlying39 (hval 0 39 v0 rfl rfl)
  obtain ⟨y0, oy0, hr0⟩ := D6.valAgg (opn39) (by rw [e0] at h0; exact h0) hB0
  rw [← e0] at hr0
  obtain ⟨F, hF⟩ := law y0 oy0
  refine (S8 F y0 true hF W (ZW W) [v0] ⟨hr0, trivial⟩ (Za hE)).mono fun e W' ⟨R, v, Ho, Z', he, ⟨hR, _⟩, hp, hs⟩ => ?_
  subst hR
  obtain rfl : v = .bool true := hp
  exact ⟨_, he, XT Ab4 (by kernel_rfl) rfl rfl VQ hW' rfl rfl rfl (Zb hs)⟩
theorem witness_row (os : Os) {H : Type} (enc : TypeId × Value → H) :
    (Rows.OpenSpec.upto Rows.hostConfinesSpec).preRow enc Tryz.prog Tryz.f4 Rows.hostConfinesUptoRow.domain false Rows.hostConfinesUptoRow.laid ((LA os).forCall (fun _ _ => 0) ⟨#[], #[.agg #[(.string ⟨#[]⟩), (.string ⟨#[]⟩), (.slice none 0 0), (.slice none 0 0), (.slice none 0 0), (.int .i64 0), (.slice none 0 0), (.slice none 0 0), (.bool false), (.slice none 0 0)]], []⟩).memory #[.agg #[(.string ⟨#[]⟩), (.string ⟨#[]⟩), (.slice none 0 0), (.slice none 0 0), (.slice none 0 0), (.int .i64 0), (.slice none 0 0), (.slice none 0 0), (.bool false), (.slice none 0 0)]] := by
  have hw : (DataW.whole enc Tryz.prog ((LA os).forCall (fun _ _ => 0) ⟨#[], #[.agg #[(.string ⟨#[]⟩), (.string ⟨#[]⟩), (.slice none 0 0), (.slice none 0 0), (.slice none 0 0), (.int .i64 0), (.slice none 0 0), (.slice none 0 0), (.bool false), (.slice none 0 0)]], []⟩).memory Tryz.f4.params.toList Rows.hostConfinesSpec.vars false #[.agg #[(.string ⟨#[]⟩), (.string ⟨#[]⟩), (.slice none 0 0), (.slice none 0 0), (.slice none 0 0), (.int .i64 0), (.slice none 0 0), (.slice none 0 0), (.bool false), (.slice none 0 0)]].toList 8).map (fun x => (x.1, x.2.1)) =
      some ([.agg [.agg [.lit (.string []), .lit (.string []), .nil, .nil, .nil, .lit (.int .i64 0)], .nil, .nil, .lit (.bool false), .nil]], []) := by kernel_rfl
  obtain ⟨⟨x1, x2, x3⟩, hx, hx1⟩ := Option.map_eq_some_iff.1 hw
  simp only [Prod.mk.injEq] at hx1
  obtain ⟨rfl, rfl⟩ := hx1
  exact OpenSpec.preRow_of_cond 8 hx (by kernel_rfl) (fun k hk => by cases hk; kernel_rfl) (by kernel_rfl) (ZK os _)
theorem lifted (os : Os) (started : os.Started) (H : Type) (enc : TypeId × Value → H) (F : Stop.Interp) :
    ReturnsInHanded {} Tryz.checked os 4 .any ((Rows.OpenSpec.upto Rows.hostConfinesSpec).preRow enc Tryz.prog Tryz.f4 Rows.hostConfinesUptoRow.domain false Rows.hostConfinesUptoRow.laid) (((Rows.OpenSpec.upto Rows.hostConfinesSpec).at F).post enc Tryz.prog Tryz.f4 false true false false) := by
  refine returnsInHanded_of_row (C := Tryz.checked) (s := (Rows.OpenSpec.upto Rows.hostConfinesSpec)) own started (by kernel_rfl) Tryz.func4
    (witness_row_atRef (enc := enc) (C := Tryz.checked) false (LA os) #[.agg #[(.string ⟨#[]⟩), (.string ⟨#[]⟩), (.slice none 0 0), (.slice none 0 0), (.slice none 0 0), (.int .i64 0), (.slice none 0 0), (.slice none 0 0), (.bool false), (.slice none 0 0)]] rfl (by kernel_rfl) (by kernel_rfl) (by kernel_rfl) (witness_row os enc)) ?_
  intro W base args ds gs before hval hW _ hk hz hL _ _
  exact contract H enc W base args ds gs before hval hW hk hz hL
theorem said : Rows.HostConfinesUptoSaid :=
  OpenClaim.holds_of_cond 4 Tryz.f4 rfl rfl rfl rfl rfl rfl rfl ⟨rfl, rfl, rfl, rfl, rfl⟩ rfl rfl rfl rfl rfl (by kernel_rfl) Tryz.func4 (by kernel_rfl)
    (of_decide_eq_true (by kernel_rfl)) (by unfold Func.isWrapper; first | (rw [if_pos (by decide +kernel)]; kernel_rfl) | (rw [if_neg (by decide +kernel)]; exact ⟨rfl, rfl⟩))
    (fun os started H enc _ F => by rw [OpenClaim.pre_eq_preRow]; exact lifted os started H enc F)
theorem plain (f : FuncId) (fn : Func) (hf : Tryz.pinned.checked.prog.funcNamed "faas/faaslaw35.HostConfines" = some f) (hfn : Tryz.pinned.checked.prog.funcs[f]? = some fn) :
    true = Tryz.pinned.checked.prog.looks [] ∧ ∀ (j : Nat) t, fn.params[j]? = some t → Tryz.pinned.checked.prog.wantsStandIn t = false := by
  obtain rfl : f = 4 := Option.some.inj ((show Tryz.prog.funcNamed "faas/faaslaw35.HostConfines" = some 4 by kernel_rfl).symm.trans hf) |>.symm
  obtain rfl : fn = Tryz.f4 := (Option.some.inj (Tryz.func4.symm.trans hfn)).symm
  refine ⟨by kernel_rfl, fun j t ht => ?_⟩
  rw [Tryz.params4] at ht
  have hm := Array.mem_of_getElem? ht
  have hall : ∀ t ∈ (#[39] : Array TypeId), Tryz.prog.wantsStandIn t = false := by
    intro t ht
    have := List.all_eq_true.1 (show ([39] : List TypeId).all (fun t => !Tryz.prog.wantsStandIn t) = true by kernel_rfl) t (by simpa using ht)
    simpa using this
  exact hall t hm
theorem card : Rows.HostConfinesUptoCardSaid :=
  Claim7.holds_tied_plain_at .later [] _ _ _ _ said (fun _ h => by cases h) (by kernel_rfl) (fun _ h => by cases h) hostConfinesUpto_row_tie rfl ⟨rfl, rfl⟩ (by kernel_rfl) rfl plain (by kernel_rfl)
end Go.Proofs.YtmjlemhondjfhaaGreatDoor.lawHostConfines
namespace Go.Proofs.YtmjlemhondjfhaaGreatDoor
theorem hostConfines_card : Rows.HostConfinesUptoCardSaid := lawHostConfines.card
end Go.Proofs.YtmjlemhondjfhaaGreatDoor
#print axioms Go.Proofs.YtmjlemhondjfhaaGreatDoor.hostConfines_card
