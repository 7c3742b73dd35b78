/-
  The law HostReadsOwn holds of the given program for every input of the bulk that the second form names.
-/
import Derived.Test.YtmjlemhondjfhaaGreatDoorHR6
namespace Go.Proofs.YtmjlemhondjfhaaGreatDoor.lawHostReadsOwn
open Go Go.Proofs.YtmjlemhondjfhaaGreatDoor.Q Go.ChangeShapes Go.WideShapes Go.ChangeAt Go.RowKit
open Go.ChangeMaps (open_string)
set_option linter.unusedVariables false
set_option linter.unusedSimpArgs false
set_option maxRecDepth 100000
theorem opn9 : Dp Tryz.prog 9 eS G9 := Dp.str Tryz.underlying9 (fun _ => rfl)
theorem opn22 : Dp Tryz.prog 22 (fun ys : (List Ae) => [AK 1 (ys.map eS)]) (fun ys : (List Ae) => ys.all G9 && decide (ys.length ≤ 1048576)) := Dp.slice Tryz.underlying22 (by kernel_rfl) (by decide) opn9 DN (fun _ => rfl)
theorem opn4 : Dp Tryz.prog 4 eB (fun _ => true) := Dp.bool Tryz.underlying4 (fun _ => rfl)
-- struct Ad
theorem opn100 : Dp Tryz.prog 100 Af VB := fun h hB => by
  obtain ⟨xs, k, _, hxe, hlen, hxl, hf⟩ := DataW.trod_struct Tryz.underlying100 h
  rw [hxe] at hB
  have hxl : xs.length = 3 := hxl
  have ct : Tryz.prog.cellsOf 100 = 3 := by kernel_rfl
  rw [ct] at hlen
  have g0 : DataW.trod _ _ _ _ _ _ _ 4 ((List.drop 0 _).take (Tryz.prog.cellsOf 4)) = _ := hf 0 _ rfl
  have c0 : Tryz.prog.cellsOf 4 = 1 := by kernel_rfl
  rw [c0, List.getElem?_eq_getElem (by omega)] at g0
  obtain ⟨y0, o0, r0⟩ := opn4 g0 (BI (by omega) hB)
  have g1 : DataW.trod _ _ _ _ _ _ _ 22 ((List.drop 1 _).take (Tryz.prog.cellsOf 22)) = _ := hf 1 _ rfl
  have c1 : Tryz.prog.cellsOf 22 = 1 := by kernel_rfl
  rw [c1, List.getElem?_eq_getElem (by omega)] at g1
  obtain ⟨y1, o1, r1⟩ := opn22 g1 (BI (by omega) hB)
  have g2 : DataW.trod _ _ _ _ _ _ _ 22 ((List.drop 2 _).take (Tryz.prog.cellsOf 22)) = _ := hf 2 _ rfl
  have c2 : Tryz.prog.cellsOf 22 = 1 := by kernel_rfl
  rw [c2, List.getElem?_eq_getElem (by omega)] at g2
  obtain ⟨y2, o2, r2⟩ := opn22 g2 (BI (by omega) hB)
  refine ⟨⟨y0, y1, y2⟩, by simp only [VB, o0, o1, o2, Bool.and_self], ?_⟩
  exact (BV r0 rfl (BV r1 rfl (BV r2 rfl (Iw hlen))))
theorem opn23 : Dp Tryz.prog 23 (fun ys : (List Ad) => [AK 3 (ys.map Af)]) (fun ys : (List Ad) => ys.all VB && decide (ys.length ≤ 1048576)) := Dp.slice Tryz.underlying23 (by kernel_rfl) (by decide) opn100 Ec (fun _ => rfl)
theorem opn3 : Dp Tryz.prog 3 Zw (Cb .i64) := Dp.int Tryz.underlying3 (fun _ => rfl)
-- struct AG
theorem opn111 : Dp Tryz.prog 111 Ao V9 := fun h hB => by
  obtain ⟨xs, k, _, hxe, hlen, hxl, hf⟩ := DataW.trod_struct Tryz.underlying111 h
  rw [hxe] at hB
  have hxl : xs.length = 5 := hxl
  have ct : Tryz.prog.cellsOf 111 = 5 := by kernel_rfl
  rw [ct] at hlen
  have g0 : DataW.trod _ _ _ _ _ _ _ 4 ((List.drop 0 _).take (Tryz.prog.cellsOf 4)) = _ := hf 0 _ rfl
  have c0 : Tryz.prog.cellsOf 4 = 1 := by kernel_rfl
  rw [c0, List.getElem?_eq_getElem (by omega)] at g0
  obtain ⟨y0, o0, r0⟩ := opn4 g0 (BI (by omega) hB)
  have g1 : DataW.trod _ _ _ _ _ _ _ 3 ((List.drop 1 _).take (Tryz.prog.cellsOf 3)) = _ := hf 1 _ rfl
  have c1 : Tryz.prog.cellsOf 3 = 1 := by kernel_rfl
  rw [c1, List.getElem?_eq_getElem (by omega)] at g1
  obtain ⟨y1, o1, r1⟩ := opn3 g1 (BI (by omega) hB)
  have g2 : DataW.trod _ _ _ _ _ _ _ 3 ((List.drop 2 _).take (Tryz.prog.cellsOf 3)) = _ := hf 2 _ rfl
  have c2 : Tryz.prog.cellsOf 3 = 1 := by kernel_rfl
  rw [c2, List.getElem?_eq_getElem (by omega)] at g2
  obtain ⟨y2, o2, r2⟩ := opn3 g2 (BI (by omega) hB)
  have g3 : DataW.trod _ _ _ _ _ _ _ 3 ((List.drop 3 _).take (Tryz.prog.cellsOf 3)) = _ := hf 3 _ rfl
  have c3 : Tryz.prog.cellsOf 3 = 1 := by kernel_rfl
  rw [c3, List.getElem?_eq_getElem (by omega)] at g3
  obtain ⟨y3, o3, r3⟩ := opn3 g3 (BI (by omega) hB)
  have g4 : DataW.trod _ _ _ _ _ _ _ 3 ((List.drop 4 _).take (Tryz.prog.cellsOf 3)) = _ := hf 4 _ rfl
  have c4 : Tryz.prog.cellsOf 3 = 1 := by kernel_rfl
  rw [c4, List.getElem?_eq_getElem (by omega)] at g4
  obtain ⟨y4, o4, r4⟩ := opn3 g4 (BI (by omega) hB)
  refine ⟨⟨y0, y1, y2, y3, y4⟩, by simp only [V9, o0, o1, o2, o3, o4, Bool.and_self], ?_⟩
  exact (BV r0 rfl (BV r1 rfl (BV r2 rfl (BV r3 rfl (BV r4 rfl (Iw hlen))))))
theorem opn24 : Dp Tryz.prog 24 (fun ys : (List AG) => [AK 5 (ys.map Ao)]) (fun ys : (List AG) => ys.all V9 && decide (ys.length ≤ 1048576)) := Dp.slice Tryz.underlying24 (by kernel_rfl) (by decide) opn111 GR (fun _ => rfl)
-- struct AR
theorem opn26 : Dp Tryz.prog 26 BF AbQ := fun h hB => by
  obtain ⟨xs, k, _, hxe, hlen, hxl, hf⟩ := DataW.trod_struct Tryz.underlying26 h
  rw [hxe] at hB
  have hxl : xs.length = 6 := hxl
  have ct : Tryz.prog.cellsOf 26 = 6 := by kernel_rfl
  rw [ct] at hlen
  have g0 : DataW.trod _ _ _ _ _ _ _ 9 ((List.drop 0 _).take (Tryz.prog.cellsOf 9)) = _ := hf 0 _ rfl
  have c0 : Tryz.prog.cellsOf 9 = 1 := by kernel_rfl
  rw [c0, List.getElem?_eq_getElem (by omega)] at g0
  obtain ⟨y0, o0, r0⟩ := opn9 g0 (BI (by omega) hB)
  have g1 : DataW.trod _ _ _ _ _ _ _ 9 ((List.drop 1 _).take (Tryz.prog.cellsOf 9)) = _ := hf 1 _ rfl
  have c1 : Tryz.prog.cellsOf 9 = 1 := by kernel_rfl
  rw [c1, List.getElem?_eq_getElem (by omega)] at g1
  obtain ⟨y1, o1, r1⟩ := opn9 g1 (BI (by omega) hB)
  have g2 : DataW.trod _ _ _ _ _ _ _ 22 ((List.drop 2 _).take (Tryz.prog.cellsOf 22)) = _ := hf 2 _ rfl
  have c2 : Tryz.prog.cellsOf 22 = 1 := by kernel_rfl
  rw [c2, List.getElem?_eq_getElem (by omega)] at g2
  obtain ⟨y2, o2, r2⟩ := opn22 g2 (BI (by omega) hB)
  have g3 : DataW.trod _ _ _ _ _ _ _ 23 ((List.drop 3 _).take (Tryz.prog.cellsOf 23)) = _ := hf 3 _ rfl
  have c3 : Tryz.prog.cellsOf 23 = 1 := by kernel_rfl
  rw [c3, List.getElem?_eq_getElem (by omega)] at g3
  obtain ⟨y3, o3, r3⟩ := opn23 g3 (BI (by omega) hB)
  have g4 : DataW.trod _ _ _ _ _ _ _ 24 ((List.drop 4 _).take (Tryz.prog.cellsOf 24)) = _ := hf 4 _ rfl
  have c4 : Tryz.prog.cellsOf 24 = 1 := by kernel_rfl
  rw [c4, List.getElem?_eq_getElem (by omega)] at g4
  obtain ⟨y4, o4, r4⟩ := opn24 g4 (BI (by omega) hB)
  have g5 : DataW.trod _ _ _ _ _ _ _ 3 ((List.drop 5 _).take (Tryz.prog.cellsOf 3)) = _ := hf 5 _ rfl
  have c5 : Tryz.prog.cellsOf 3 = 1 := by kernel_rfl
  rw [c5, List.getElem?_eq_getElem (by omega)] at g5
  obtain ⟨y5, o5, r5⟩ := opn3 g5 (BI (by omega) hB)
  refine ⟨⟨y0, y1, y2, y3, y4, y5⟩, by simp only [AbQ, o0, o1, o2, o3, o4, o5, Bool.and_self], ?_⟩
  exact (BV r0 rfl (BV r1 rfl (BV r2 rfl (BV r3 rfl (BV r4 rfl (BV r5 rfl (Iw hlen)))))))
theorem opn68 : Dp Tryz.prog 68 Zw (Cb .i64) := Dp.int Tryz.underlying68 (fun _ => rfl)
-- struct Ab
theorem opn70 : Dp Tryz.prog 70 Ai Xe := fun h hB => by
  obtain ⟨xs, k, _, hxe, hlen, hxl, hf⟩ := DataW.trod_struct Tryz.underlying70 h
  rw [hxe] at hB
  have hxl : xs.length = 4 := hxl
  have ct : Tryz.prog.cellsOf 70 = 4 := by kernel_rfl
  rw [ct] at hlen
  have g0 : DataW.trod _ _ _ _ _ _ _ 68 ((List.drop 0 _).take (Tryz.prog.cellsOf 68)) = _ := hf 0 _ rfl
  have c0 : Tryz.prog.cellsOf 68 = 1 := by kernel_rfl
  rw [c0, List.getElem?_eq_getElem (by omega)] at g0
  obtain ⟨y0, o0, r0⟩ := opn68 g0 (BI (by omega) hB)
  have g1 : DataW.trod _ _ _ _ _ _ _ 3 ((List.drop 1 _).take (Tryz.prog.cellsOf 3)) = _ := hf 1 _ rfl
  have c1 : Tryz.prog.cellsOf 3 = 1 := by kernel_rfl
  rw [c1, List.getElem?_eq_getElem (by omega)] at g1
  obtain ⟨y1, o1, r1⟩ := opn3 g1 (BI (by omega) hB)
  have g2 : DataW.trod _ _ _ _ _ _ _ 9 ((List.drop 2 _).take (Tryz.prog.cellsOf 9)) = _ := hf 2 _ rfl
  have c2 : Tryz.prog.cellsOf 9 = 1 := by kernel_rfl
  rw [c2, List.getElem?_eq_getElem (by omega)] at g2
  obtain ⟨y2, o2, r2⟩ := opn9 g2 (BI (by omega) hB)
  have g3 : DataW.trod _ _ _ _ _ _ _ 3 ((List.drop 3 _).take (Tryz.prog.cellsOf 3)) = _ := hf 3 _ rfl
  have c3 : Tryz.prog.cellsOf 3 = 1 := by kernel_rfl
  rw [c3, List.getElem?_eq_getElem (by omega)] at g3
  obtain ⟨y3, o3, r3⟩ := opn3 g3 (BI (by omega) hB)
  refine ⟨⟨y0, y1, y2, y3⟩, by simp only [Xe, o0, o1, o2, o3, Bool.and_self], ?_⟩
  exact (BV r0 rfl (BV r1 rfl (BV r2 rfl (BV r3 rfl (Iw hlen)))))
theorem opn50 : Dp Tryz.prog 50 (fun ys : (List Ab) => [AK 4 (ys.map Ai)]) (fun ys : (List Ab) => ys.all Xe && decide (ys.length ≤ 1048576)) := Dp.slice Tryz.underlying50 (by kernel_rfl) (by decide) opn70 C9 (fun _ => rfl)
-- struct Bt
theorem opn72 : Dp Tryz.prog 72 BA Aaw := fun h hB => by
  obtain ⟨xs, k, _, hxe, hlen, hxl, hf⟩ := DataW.trod_struct Tryz.underlying72 h
  rw [hxe] at hB
  have hxl : xs.length = 3 := hxl
  have ct : Tryz.prog.cellsOf 72 = 3 := by kernel_rfl
  rw [ct] at hlen
  have g0 : DataW.trod _ _ _ _ _ _ _ 9 ((List.drop 0 _).take (Tryz.prog.cellsOf 9)) = _ := hf 0 _ rfl
  have c0 : Tryz.prog.cellsOf 9 = 1 := by kernel_rfl
  rw [c0, List.getElem?_eq_getElem (by omega)] at g0
  obtain ⟨y0, o0, r0⟩ := opn9 g0 (BI (by omega) hB)
  have g1 : DataW.trod _ _ _ _ _ _ _ 50 ((List.drop 1 _).take (Tryz.prog.cellsOf 50)) = _ := hf 1 _ rfl
  have c1 : Tryz.prog.cellsOf 50 = 1 := by kernel_rfl
  rw [c1, List.getElem?_eq_getElem (by omega)] at g1
  obtain ⟨y1, o1, r1⟩ := opn50 g1 (BI (by omega) hB)
  have g2 : DataW.trod _ _ _ _ _ _ _ 3 ((List.drop 2 _).take (Tryz.prog.cellsOf 3)) = _ := hf 2 _ rfl
  have c2 : Tryz.prog.cellsOf 3 = 1 := by kernel_rfl
  rw [c2, List.getElem?_eq_getElem (by omega)] at g2
  obtain ⟨y2, o2, r2⟩ := opn3 g2 (BI (by omega) hB)
  refine ⟨⟨y0, y1, y2⟩, by simp only [Aaw, o0, o1, o2, Bool.and_self], ?_⟩
  exact (BV r0 rfl (BV r1 rfl (BV r2 rfl (Iw hlen))))
theorem opn35 : Dp Tryz.prog 35 (fun ys : (List Bt) => [AK 3 (ys.map BA)]) (fun ys : (List Bt) => ys.all Aaw && decide (ys.length ≤ 1048576)) := Dp.slice Tryz.underlying35 (by kernel_rfl) (by decide) opn72 Lz (fun _ => rfl)
-- struct Ci
theorem opn106 : Dp Tryz.prog 106 A6 VA := fun h hB => by
  obtain ⟨xs, k, _, hxe, hlen, hxl, hf⟩ := DataW.trod_struct Tryz.underlying106 h
  rw [hxe] at hB
  have hxl : xs.length = 3 := hxl
  have ct : Tryz.prog.cellsOf 106 = 3 := by kernel_rfl
  rw [ct] at hlen
  have g0 : DataW.trod _ _ _ _ _ _ _ 9 ((List.drop 0 _).take (Tryz.prog.cellsOf 9)) = _ := hf 0 _ rfl
  have c0 : Tryz.prog.cellsOf 9 = 1 := by kernel_rfl
  rw [c0, List.getElem?_eq_getElem (by omega)] at g0
  obtain ⟨y0, o0, r0⟩ := opn9 g0 (BI (by omega) hB)
  have g1 : DataW.trod _ _ _ _ _ _ _ 9 ((List.drop 1 _).take (Tryz.prog.cellsOf 9)) = _ := hf 1 _ rfl
  have c1 : Tryz.prog.cellsOf 9 = 1 := by kernel_rfl
  rw [c1, List.getElem?_eq_getElem (by omega)] at g1
  obtain ⟨y1, o1, r1⟩ := opn9 g1 (BI (by omega) hB)
  have g2 : DataW.trod _ _ _ _ _ _ _ 9 ((List.drop 2 _).take (Tryz.prog.cellsOf 9)) = _ := hf 2 _ rfl
  have c2 : Tryz.prog.cellsOf 9 = 1 := by kernel_rfl
  rw [c2, List.getElem?_eq_getElem (by omega)] at g2
  obtain ⟨y2, o2, r2⟩ := opn9 g2 (BI (by omega) hB)
  refine ⟨⟨y0, y1, y2⟩, by simp only [VA, o0, o1, o2, Bool.and_self], ?_⟩
  exact (BV r0 rfl (BV r1 rfl (BV r2 rfl (Iw hlen))))
theorem opn36 : Dp Tryz.prog 36 (fun ys : (List Ci) => [AK 3 (ys.map A6)]) (fun ys : (List Ci) => ys.all VA && decide (ys.length ≤ 1048576)) := Dp.slice Tryz.underlying36 (by kernel_rfl) (by decide) opn106 JR (fun _ => rfl)
theorem opn27 : Dp Tryz.prog 27 (fun ys : (List (List Ab)) => [AK 1 (ys.map AL)]) (fun ys : (List (List Ab)) => ys.all (fun ys : (List Ab) => ys.all Xe && decide (ys.length ≤ 1048576)) && decide (ys.length ≤ 1048576)) := Dp.slice Tryz.underlying27 (by kernel_rfl) (by decide) opn50 BU (fun _ => rfl)
-- struct A7
theorem opn29 : Dp Tryz.prog 29 AP Aax := fun h hB => by
  obtain ⟨xs, k, _, hxe, hlen, hxl, hf⟩ := DataW.trod_struct Tryz.underlying29 h
  rw [hxe] at hB
  have hxl : xs.length = 2 := hxl
  have ct : Tryz.prog.cellsOf 29 = 2 := by kernel_rfl
  rw [ct] at hlen
  have g0 : DataW.trod _ _ _ _ _ _ _ 9 ((List.drop 0 _).take (Tryz.prog.cellsOf 9)) = _ := hf 0 _ rfl
  have c0 : Tryz.prog.cellsOf 9 = 1 := by kernel_rfl
  rw [c0, List.getElem?_eq_getElem (by omega)] at g0
  obtain ⟨y0, o0, r0⟩ := opn9 g0 (BI (by omega) hB)
  have g1 : DataW.trod _ _ _ _ _ _ _ 27 ((List.drop 1 _).take (Tryz.prog.cellsOf 27)) = _ := hf 1 _ rfl
  have c1 : Tryz.prog.cellsOf 27 = 1 := by kernel_rfl
  rw [c1, List.getElem?_eq_getElem (by omega)] at g1
  obtain ⟨y1, o1, r1⟩ := opn27 g1 (BI (by omega) hB)
  refine ⟨⟨y0, y1⟩, by simp only [Aax, o0, o1, Bool.and_self], ?_⟩
  exact (BV r0 rfl (BV r1 rfl (Iw hlen)))
theorem opn37 : Dp Tryz.prog 37 (fun ys : (List A7) => [AK 2 (ys.map AP)]) (fun ys : (List A7) => ys.all Aax && decide (ys.length ≤ 1048576)) := Dp.slice Tryz.underlying37 (by kernel_rfl) (by decide) opn29 N3 (fun _ => rfl)
-- struct Bv
theorem opn39 : Dp Tryz.prog 39 Be AbP := fun h hB => by
  obtain ⟨xs, k, _, hxe, hlen, hxl, hf⟩ := DataW.trod_struct Tryz.underlying39 h
  rw [hxe] at hB
  have hxl : xs.length = 5 := hxl
  have ct : Tryz.prog.cellsOf 39 = 10 := by kernel_rfl
  rw [ct] at hlen
  have g0 : DataW.trod _ _ _ _ _ _ _ 26 ((List.drop 0 _).take (Tryz.prog.cellsOf 26)) = _ := hf 0 _ rfl
  have c0 : Tryz.prog.cellsOf 26 = 6 := by kernel_rfl
  rw [c0, List.getElem?_eq_getElem (by omega)] at g0
  obtain ⟨y0, o0, r0⟩ := opn26 g0 (BI (by omega) hB)
  have g1 : DataW.trod _ _ _ _ _ _ _ 35 ((List.drop 6 _).take (Tryz.prog.cellsOf 35)) = _ := hf 1 _ rfl
  have c1 : Tryz.prog.cellsOf 35 = 1 := by kernel_rfl
  rw [c1, List.getElem?_eq_getElem (by omega)] at g1
  obtain ⟨y1, o1, r1⟩ := opn35 g1 (BI (by omega) hB)
  have g2 : DataW.trod _ _ _ _ _ _ _ 36 ((List.drop 7 _).take (Tryz.prog.cellsOf 36)) = _ := hf 2 _ rfl
  have c2 : Tryz.prog.cellsOf 36 = 1 := by kernel_rfl
  rw [c2, List.getElem?_eq_getElem (by omega)] at g2
  obtain ⟨y2, o2, r2⟩ := opn36 g2 (BI (by omega) hB)
  have g3 : DataW.trod _ _ _ _ _ _ _ 4 ((List.drop 8 _).take (Tryz.prog.cellsOf 4)) = _ := hf 3 _ rfl
  have c3 : Tryz.prog.cellsOf 4 = 1 := by kernel_rfl
  rw [c3, List.getElem?_eq_getElem (by omega)] at g3
  obtain ⟨y3, o3, r3⟩ := opn4 g3 (BI (by omega) hB)
  have g4 : DataW.trod _ _ _ _ _ _ _ 37 ((List.drop 9 _).take (Tryz.prog.cellsOf 37)) = _ := hf 4 _ rfl
  have c4 : Tryz.prog.cellsOf 37 = 1 := by kernel_rfl
  rw [c4, List.getElem?_eq_getElem (by omega)] at g4
  obtain ⟨y4, o4, r4⟩ := opn37 g4 (BI (by omega) hB)
  refine ⟨⟨y0, y1, y2, y3, y4⟩, by simp only [AbP, o0, o1, o2, o3, o4, Bool.and_self], ?_⟩
  exact (BV r0 rfl (BV r1 rfl (BV r2 rfl (BV r3 rfl (BV r4 rfl (Iw hlen))))))
theorem contract (H : Type) (enc : TypeId × Value → H) (W : World) (base : Nat) (args : Array Value) (ds gs : List (DataW H)) (before : List MemPlace)
    (hval : ∀ (j : Nat) t v, Tryz.f5.params[j]? = some t → args[j]? = some v → Value.okWide Tryz.prog W .any base t v)
    (hW : DataW.Whole enc Tryz.prog Tryz.f5.params.toList Rows.hostReadsOwnSpec.vars false W args.toList ds gs before)
    (hk : ∀ k, ((Rows.OpenSpec.upto Rows.hostReadsOwnSpec)).cond = some k → k H (ds ++ gs) = true)
    (hz : (DataW.weightsEach Tryz.prog (Tryz.f5.params.toList ++ []) (ds ++ gs)).all (· ≤ reachBytes) = true) (hL : laidMet Tryz.prog P6 W) :
    Calls Tryz.prog 5 args W fun e W' => ∃ v, e = .returned v ∧ Rows.hostReadsOwnSpec.post enc Tryz.prog Tryz.f5 false true false false W args v W' := by
  have hE := Acq hL
  have hW' := hW
  obtain ⟨p, q, hA0, hV, hbf, hfz, hnd⟩ := hW
  have hA : DataW.TrodAll enc Tryz.prog W 0 (fun _ => true) true Tryz.f5.params.toList args.toList ds p := hA0
  rw [Tryz.params5] at hA hval hz
  obtain ⟨rfl, rfl⟩ := trodVars_none hV
  obtain ⟨v0, vs0, d0, ds0, p0, q0, hargs, hd0, hq0, h0, r0⟩ := trodAll_cons hA
  obtain ⟨v1, vs1, d1, ds1, p1, q1, hv1, hd1, hq1, h1, r1⟩ := trodAll_cons r0
  obtain ⟨hvn, hdn, hqn⟩ := trodAll_nil r1
  obtain rfl : args = #[v0, v1] := by cases args; simp_all
  obtain rfl : ds = [d0, d1] := by simp_all
  have hB : Rows.uptoBulkAll [d0, d1] ≤ 1048576 := of_decide_eq_true (hk _ rfl)
  have hB0 : Rows.uptoBulk d0 ≤ 1048576 := Nat.le_trans (K5 (by simp)) hB
  have hB1 : Rows.uptoBulk d1 ≤ 1048576 := Nat.le_trans (K5 (by simp)) hB
  obtain ⟨a0, e0, _⟩ := okWide_struct Tryz.underlying39 (hval 0 39 v0 rfl rfl)
  obtain ⟨y0, oy0, hr0⟩ := Dp.valAgg (opn39) (by rw [e0] at h0; exact h0) hB0
  rw [← e0] at hr0
  obtain ⟨a1, e1⟩ := okWide_string Tryz.underlying9 (hval 1 9 v1 rfl rfl)
  obtain ⟨y1, oy1, hr1⟩ := Dp.val (opn9) (r := fun y => rS y) (fun _ => rfl) (by rw [e1]; rfl) h1 hB1
  obtain ⟨F, hF⟩ := law y0 y1 oy0 oy1
  refine (RH F y0 y1 true hF W (ZW W) [v0, v1] ⟨hr0, hr1, trivial⟩ (Yk hE)).mono fun e W' ⟨R, v, Ho, Z', he, ⟨hR, _⟩, hp, hs⟩ => ?_
  subst hR
  obtain rfl : v = .bool true := hp
  exact ⟨_, he, Xb AaD (by kernel_rfl) rfl rfl UU hW' rfl rfl rfl (Yl hs)⟩
theorem witness_row (os : Os) {H : Type} (enc : TypeId × Value → H) :
    (Rows.OpenSpec.upto Rows.hostReadsOwnSpec).preRow enc Tryz.prog Tryz.f5 Rows.hostReadsOwnUptoRow.domain false Rows.hostReadsOwnUptoRow.laid ((KN os).forCall (fun _ _ => 0) ⟨#[], #[.agg #[(.string ⟨#[]⟩), (.string ⟨#[]⟩), (.slice none 0 0), (.slice none 0 0), (.slice none 0 0), (.int .i64 0), (.slice none 0 0), (.slice none 0 0), (.bool false), (.slice none 0 0)], .string ⟨#[]⟩], []⟩).memory #[.agg #[(.string ⟨#[]⟩), (.string ⟨#[]⟩), (.slice none 0 0), (.slice none 0 0), (.slice none 0 0), (.int .i64 0), (.slice none 0 0), (.slice none 0 0), (.bool false), (.slice none 0 0)], .string ⟨#[]⟩] := by
  have hw : (DataW.whole enc Tryz.prog ((KN os).forCall (fun _ _ => 0) ⟨#[], #[.agg #[(.string ⟨#[]⟩), (.string ⟨#[]⟩), (.slice none 0 0), (.slice none 0 0), (.slice none 0 0), (.int .i64 0), (.slice none 0 0), (.slice none 0 0), (.bool false), (.slice none 0 0)], .string ⟨#[]⟩], []⟩).memory Tryz.f5.params.toList Rows.hostReadsOwnSpec.vars false #[.agg #[(.string ⟨#[]⟩), (.string ⟨#[]⟩), (.slice none 0 0), (.slice none 0 0), (.slice none 0 0), (.int .i64 0), (.slice none 0 0), (.slice none 0 0), (.bool false), (.slice none 0 0)], .string ⟨#[]⟩].toList 8).map (fun x => (x.1, x.2.1)) =
      some ([.agg [.agg [.lit (.string []), .lit (.string []), .nil, .nil, .nil, .lit (.int .i64 0)], .nil, .nil, .lit (.bool false), .nil], .lit (.string [])], []) := by kernel_rfl
  obtain ⟨⟨x1, x2, x3⟩, hx, hx1⟩ := Option.map_eq_some_iff.1 hw
  simp only [Prod.mk.injEq] at hx1
  obtain ⟨rfl, rfl⟩ := hx1
  exact OpenSpec.preRow_of_cond 8 hx (by kernel_rfl) (fun k hk => by cases hk; kernel_rfl) (by kernel_rfl) (YW os _)
theorem lifted (os : Os) (started : os.Started) (H : Type) (enc : TypeId × Value → H) (F : Stop.Interp) :
    ReturnsInHanded {} Tryz.checked os 5 .any ((Rows.OpenSpec.upto Rows.hostReadsOwnSpec).preRow enc Tryz.prog Tryz.f5 Rows.hostReadsOwnUptoRow.domain false Rows.hostReadsOwnUptoRow.laid) (((Rows.OpenSpec.upto Rows.hostReadsOwnSpec).at F).post enc Tryz.prog Tryz.f5 false true false false) := by
  refine returnsInHanded_of_row (C := Tryz.checked) (s := (Rows.OpenSpec.upto Rows.hostReadsOwnSpec)) own started (by kernel_rfl) Tryz.func5
    (witness_row_atRef (enc := enc) (C := Tryz.checked) false (KN os) #[.agg #[(.string ⟨#[]⟩), (.string ⟨#[]⟩), (.slice none 0 0), (.slice none 0 0), (.slice none 0 0), (.int .i64 0), (.slice none 0 0), (.slice none 0 0), (.bool false), (.slice none 0 0)], .string ⟨#[]⟩] rfl (by kernel_rfl) (by kernel_rfl) (by kernel_rfl) (witness_row os enc)) ?_
  intro W base args ds gs before hval hW _ hk hz hL _ _
  exact contract H enc W base args ds gs before hval hW hk hz hL
theorem said : Rows.HostReadsOwnUptoSaid :=
  OpenClaim.holds_of_cond 5 Tryz.f5 rfl rfl rfl rfl rfl rfl rfl ⟨rfl, rfl, rfl, rfl, rfl⟩ rfl rfl rfl rfl rfl (by kernel_rfl) Tryz.func5 (by kernel_rfl)
    (of_decide_eq_true (by kernel_rfl)) (by unfold Func.isWrapper; first | (rw [if_pos (by decide +kernel)]; kernel_rfl) | (rw [if_neg (by decide +kernel)]; exact ⟨rfl, rfl⟩))
    (fun os started H enc _ F => by rw [OpenClaim.pre_eq_preRow]; exact lifted os started H enc F)
theorem plain (f : FuncId) (fn : Func) (hf : Tryz.pinned.checked.prog.funcNamed "faas/faaslaw35.HostReadsOwn" = some f) (hfn : Tryz.pinned.checked.prog.funcs[f]? = some fn) :
    true = Tryz.pinned.checked.prog.looks [] ∧ ∀ (j : Nat) t, fn.params[j]? = some t → Tryz.pinned.checked.prog.wantsStandIn t = false := by
  obtain rfl : f = 5 := Option.some.inj ((show Tryz.prog.funcNamed "faas/faaslaw35.HostReadsOwn" = some 5 by kernel_rfl).symm.trans hf) |>.symm
  obtain rfl : fn = Tryz.f5 := (Option.some.inj (Tryz.func5.symm.trans hfn)).symm
  refine ⟨by kernel_rfl, fun j t ht => ?_⟩
  rw [Tryz.params5] at ht
  have hm := Array.mem_of_getElem? ht
  have hall : ∀ t ∈ (#[39, 9] : Array TypeId), Tryz.prog.wantsStandIn t = false := by
    intro t ht
    have := List.all_eq_true.1 (show ([39, 9] : List TypeId).all (fun t => !Tryz.prog.wantsStandIn t) = true by kernel_rfl) t (by simpa using ht)
    simpa using this
  exact hall t hm
theorem card : Rows.HostReadsOwnUptoCardSaid :=
  Claim7.holds_tied_plain_at .later [] _ _ _ _ said (fun _ h => by cases h) (by kernel_rfl) (fun _ h => by cases h) hostReadsOwnUpto_row_tie rfl ⟨rfl, rfl⟩ (by kernel_rfl) rfl plain (by kernel_rfl)
end Go.Proofs.YtmjlemhondjfhaaGreatDoor.lawHostReadsOwn
namespace Go.Proofs.YtmjlemhondjfhaaGreatDoor
theorem hostReadsOwn_card : Rows.HostReadsOwnUptoCardSaid := lawHostReadsOwn.card
end Go.Proofs.YtmjlemhondjfhaaGreatDoor
#print axioms Go.Proofs.YtmjlemhondjfhaaGreatDoor.hostReadsOwn_card
