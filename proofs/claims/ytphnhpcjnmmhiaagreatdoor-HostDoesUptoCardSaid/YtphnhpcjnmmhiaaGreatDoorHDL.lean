/-
  The law HostDoes holds of the given program for every input of the bulk that the second form names.
-/
import Derived.Test.YtphnhpcjnmmhiaaGreatDoorHD6
namespace Go.Proofs.YtphnhpcjnmmhiaaGreatDoor.lawHostDoes
open Go Go.Proofs.YtphnhpcjnmmhiaaGreatDoor.Q Go.ChangeShapes Go.WideShapes Go.ChangeAt Go.RowKit
open Go.ChangeMaps (open_string)
set_option linter.unusedVariables false
set_option linter.unusedSimpArgs false
set_option maxRecDepth 100000
theorem opn9 : EI Tryz.prog 9 eS Jb := EI.str Tryz.underlying9 (fun _ => rfl)
theorem opn22 : EI Tryz.prog 22 (fun ys : (List Ac) => [B4 1 (ys.map eS)]) (fun ys : (List Ac) => ys.all Jb && decide (ys.length ≤ 1048576)) := EI.slice Tryz.underlying22 (by kernel_rfl) (by decide) opn9 CK (fun _ => rfl)
theorem opn4 : EI Tryz.prog 4 eB (fun _ => true) := EI.bool Tryz.underlying4 (fun _ => rfl)
-- struct Ad
theorem opn76 : EI Tryz.prog 76 AK Ajq := fun h hB => by
  obtain ⟨xs, k, _, hxe, hlen, hxl, hf⟩ := DataW.trod_struct Tryz.underlying76 h
  rw [hxe] at hB
  have hxl : xs.length = 3 := hxl
  have ct : Tryz.prog.cellsOf 76 = 3 := by kernel_rfl
  rw [ct] at hlen
  have g0 : DataW.trod _ _ _ _ _ _ _ 4 ((List.drop 0 _).take (Tryz.prog.cellsOf 4)) = _ := hf 0 _ rfl
  have c0 : Tryz.prog.cellsOf 4 = 1 := by kernel_rfl
  rw [c0, List.getElem?_eq_getElem (by omega)] at g0
  obtain ⟨y0, o0, r0⟩ := opn4 g0 (Cw (by omega) hB)
  have g1 : DataW.trod _ _ _ _ _ _ _ 22 ((List.drop 1 _).take (Tryz.prog.cellsOf 22)) = _ := hf 1 _ rfl
  have c1 : Tryz.prog.cellsOf 22 = 1 := by kernel_rfl
  rw [c1, List.getElem?_eq_getElem (by omega)] at g1
  obtain ⟨y1, o1, r1⟩ := opn22 g1 (Cw (by omega) hB)
  have g2 : DataW.trod _ _ _ _ _ _ _ 22 ((List.drop 2 _).take (Tryz.prog.cellsOf 22)) = _ := hf 2 _ rfl
  have c2 : Tryz.prog.cellsOf 22 = 1 := by kernel_rfl
  rw [c2, List.getElem?_eq_getElem (by omega)] at g2
  obtain ⟨y2, o2, r2⟩ := opn22 g2 (Cw (by omega) hB)
  refine ⟨⟨y0, y1, y2⟩, by simp only [Ajq, o0, o1, o2, Bool.and_self], ?_⟩
  exact (CF r0 rfl (CF r1 rfl (CF r2 rfl (Lf hlen))))
theorem opn23 : EI Tryz.prog 23 (fun ys : (List Ad) => [B4 3 (ys.map AK)]) (fun ys : (List Ad) => ys.all Ajq && decide (ys.length ≤ 1048576)) := EI.slice Tryz.underlying23 (by kernel_rfl) (by decide) opn76 G2 (fun _ => rfl)
theorem opn3 : EI Tryz.prog 3 Aij (BT .i64) := EI.int Tryz.underlying3 (fun _ => rfl)
-- struct A1
theorem opn73 : EI Tryz.prog 73 B1 Ajr := fun h hB => by
  obtain ⟨xs, k, _, hxe, hlen, hxl, hf⟩ := DataW.trod_struct Tryz.underlying73 h
  rw [hxe] at hB
  have hxl : xs.length = 5 := hxl
  have ct : Tryz.prog.cellsOf 73 = 5 := by kernel_rfl
  rw [ct] at hlen
  have g0 : DataW.trod _ _ _ _ _ _ _ 4 ((List.drop 0 _).take (Tryz.prog.cellsOf 4)) = _ := hf 0 _ rfl
  have c0 : Tryz.prog.cellsOf 4 = 1 := by kernel_rfl
  rw [c0, List.getElem?_eq_getElem (by omega)] at g0
  obtain ⟨y0, o0, r0⟩ := opn4 g0 (Cw (by omega) hB)
  have g1 : DataW.trod _ _ _ _ _ _ _ 3 ((List.drop 1 _).take (Tryz.prog.cellsOf 3)) = _ := hf 1 _ rfl
  have c1 : Tryz.prog.cellsOf 3 = 1 := by kernel_rfl
  rw [c1, List.getElem?_eq_getElem (by omega)] at g1
  obtain ⟨y1, o1, r1⟩ := opn3 g1 (Cw (by omega) hB)
  have g2 : DataW.trod _ _ _ _ _ _ _ 3 ((List.drop 2 _).take (Tryz.prog.cellsOf 3)) = _ := hf 2 _ rfl
  have c2 : Tryz.prog.cellsOf 3 = 1 := by kernel_rfl
  rw [c2, List.getElem?_eq_getElem (by omega)] at g2
  obtain ⟨y2, o2, r2⟩ := opn3 g2 (Cw (by omega) hB)
  have g3 : DataW.trod _ _ _ _ _ _ _ 3 ((List.drop 3 _).take (Tryz.prog.cellsOf 3)) = _ := hf 3 _ rfl
  have c3 : Tryz.prog.cellsOf 3 = 1 := by kernel_rfl
  rw [c3, List.getElem?_eq_getElem (by omega)] at g3
  obtain ⟨y3, o3, r3⟩ := opn3 g3 (Cw (by omega) hB)
  have g4 : DataW.trod _ _ _ _ _ _ _ 3 ((List.drop 4 _).take (Tryz.prog.cellsOf 3)) = _ := hf 4 _ rfl
  have c4 : Tryz.prog.cellsOf 3 = 1 := by kernel_rfl
  rw [c4, List.getElem?_eq_getElem (by omega)] at g4
  obtain ⟨y4, o4, r4⟩ := opn3 g4 (Cw (by omega) hB)
  refine ⟨⟨y0, y1, y2, y3, y4⟩, by simp only [Ajr, o0, o1, o2, o3, o4, Bool.and_self], ?_⟩
  exact (CF r0 rfl (CF r1 rfl (CF r2 rfl (CF r3 rfl (CF r4 rfl (Lf hlen))))))
theorem opn24 : EI Tryz.prog 24 (fun ys : (List A1) => [B4 5 (ys.map B1)]) (fun ys : (List A1) => ys.all Ajr && decide (ys.length ≤ 1048576)) := EI.slice Tryz.underlying24 (by kernel_rfl) (by decide) opn73 Jl (fun _ => rfl)
-- struct A0
theorem opn26 : EI Tryz.prog 26 Cv Alr := fun h hB => by
  obtain ⟨xs, k, _, hxe, hlen, hxl, hf⟩ := DataW.trod_struct Tryz.underlying26 h
  rw [hxe] at hB
  have hxl : xs.length = 6 := hxl
  have ct : Tryz.prog.cellsOf 26 = 6 := by kernel_rfl
  rw [ct] at hlen
  have g0 : DataW.trod _ _ _ _ _ _ _ 9 ((List.drop 0 _).take (Tryz.prog.cellsOf 9)) = _ := hf 0 _ rfl
  have c0 : Tryz.prog.cellsOf 9 = 1 := by kernel_rfl
  rw [c0, List.getElem?_eq_getElem (by omega)] at g0
  obtain ⟨y0, o0, r0⟩ := opn9 g0 (Cw (by omega) hB)
  have g1 : DataW.trod _ _ _ _ _ _ _ 9 ((List.drop 1 _).take (Tryz.prog.cellsOf 9)) = _ := hf 1 _ rfl
  have c1 : Tryz.prog.cellsOf 9 = 1 := by kernel_rfl
  rw [c1, List.getElem?_eq_getElem (by omega)] at g1
  obtain ⟨y1, o1, r1⟩ := opn9 g1 (Cw (by omega) hB)
  have g2 : DataW.trod _ _ _ _ _ _ _ 22 ((List.drop 2 _).take (Tryz.prog.cellsOf 22)) = _ := hf 2 _ rfl
  have c2 : Tryz.prog.cellsOf 22 = 1 := by kernel_rfl
  rw [c2, List.getElem?_eq_getElem (by omega)] at g2
  obtain ⟨y2, o2, r2⟩ := opn22 g2 (Cw (by omega) hB)
  have g3 : DataW.trod _ _ _ _ _ _ _ 23 ((List.drop 3 _).take (Tryz.prog.cellsOf 23)) = _ := hf 3 _ rfl
  have c3 : Tryz.prog.cellsOf 23 = 1 := by kernel_rfl
  rw [c3, List.getElem?_eq_getElem (by omega)] at g3
  obtain ⟨y3, o3, r3⟩ := opn23 g3 (Cw (by omega) hB)
  have g4 : DataW.trod _ _ _ _ _ _ _ 24 ((List.drop 4 _).take (Tryz.prog.cellsOf 24)) = _ := hf 4 _ rfl
  have c4 : Tryz.prog.cellsOf 24 = 1 := by kernel_rfl
  rw [c4, List.getElem?_eq_getElem (by omega)] at g4
  obtain ⟨y4, o4, r4⟩ := opn24 g4 (Cw (by omega) hB)
  have g5 : DataW.trod _ _ _ _ _ _ _ 3 ((List.drop 5 _).take (Tryz.prog.cellsOf 3)) = _ := hf 5 _ rfl
  have c5 : Tryz.prog.cellsOf 3 = 1 := by kernel_rfl
  rw [c5, List.getElem?_eq_getElem (by omega)] at g5
  obtain ⟨y5, o5, r5⟩ := opn3 g5 (Cw (by omega) hB)
  refine ⟨⟨y0, y1, y2, y3, y4, y5⟩, by simp only [Alr, o0, o1, o2, o3, o4, o5, Bool.and_self], ?_⟩
  exact (CF r0 rfl (CF r1 rfl (CF r2 rfl (CF r3 rfl (CF r4 rfl (CF r5 rfl (Lf hlen)))))))
theorem opn80 : EI Tryz.prog 80 Aij (BT .i64) := EI.int Tryz.underlying80 (fun _ => rfl)
-- struct Ab
theorem opn82 : EI Tryz.prog 82 A5 AeO := fun h hB => by
  obtain ⟨xs, k, _, hxe, hlen, hxl, hf⟩ := DataW.trod_struct Tryz.underlying82 h
  rw [hxe] at hB
  have hxl : xs.length = 4 := hxl
  have ct : Tryz.prog.cellsOf 82 = 4 := by kernel_rfl
  rw [ct] at hlen
  have g0 : DataW.trod _ _ _ _ _ _ _ 80 ((List.drop 0 _).take (Tryz.prog.cellsOf 80)) = _ := hf 0 _ rfl
  have c0 : Tryz.prog.cellsOf 80 = 1 := by kernel_rfl
  rw [c0, List.getElem?_eq_getElem (by omega)] at g0
  obtain ⟨y0, o0, r0⟩ := opn80 g0 (Cw (by omega) hB)
  have g1 : DataW.trod _ _ _ _ _ _ _ 3 ((List.drop 1 _).take (Tryz.prog.cellsOf 3)) = _ := hf 1 _ rfl
  have c1 : Tryz.prog.cellsOf 3 = 1 := by kernel_rfl
  rw [c1, List.getElem?_eq_getElem (by omega)] at g1
  obtain ⟨y1, o1, r1⟩ := opn3 g1 (Cw (by omega) hB)
  have g2 : DataW.trod _ _ _ _ _ _ _ 9 ((List.drop 2 _).take (Tryz.prog.cellsOf 9)) = _ := hf 2 _ rfl
  have c2 : Tryz.prog.cellsOf 9 = 1 := by kernel_rfl
  rw [c2, List.getElem?_eq_getElem (by omega)] at g2
  obtain ⟨y2, o2, r2⟩ := opn9 g2 (Cw (by omega) hB)
  have g3 : DataW.trod _ _ _ _ _ _ _ 3 ((List.drop 3 _).take (Tryz.prog.cellsOf 3)) = _ := hf 3 _ rfl
  have c3 : Tryz.prog.cellsOf 3 = 1 := by kernel_rfl
  rw [c3, List.getElem?_eq_getElem (by omega)] at g3
  obtain ⟨y3, o3, r3⟩ := opn3 g3 (Cw (by omega) hB)
  refine ⟨⟨y0, y1, y2, y3⟩, by simp only [AeO, o0, o1, o2, o3, Bool.and_self], ?_⟩
  exact (CF r0 rfl (CF r1 rfl (CF r2 rfl (CF r3 rfl (Lf hlen)))))
theorem opn44 : EI Tryz.prog 44 (fun ys : (List Ab) => [B4 4 (ys.map A5)]) (fun ys : (List Ab) => ys.all AeO && decide (ys.length ≤ 1048576)) := EI.slice Tryz.underlying44 (by kernel_rfl) (by decide) opn82 Dh (fun _ => rfl)
-- struct AB
theorem opn78 : EI Tryz.prog 78 BJ Ajp := fun h hB => by
  obtain ⟨xs, k, _, hxe, hlen, hxl, hf⟩ := DataW.trod_struct Tryz.underlying78 h
  rw [hxe] at hB
  have hxl : xs.length = 3 := hxl
  have ct : Tryz.prog.cellsOf 78 = 3 := by kernel_rfl
  rw [ct] at hlen
  have g0 : DataW.trod _ _ _ _ _ _ _ 9 ((List.drop 0 _).take (Tryz.prog.cellsOf 9)) = _ := hf 0 _ rfl
  have c0 : Tryz.prog.cellsOf 9 = 1 := by kernel_rfl
  rw [c0, List.getElem?_eq_getElem (by omega)] at g0
  obtain ⟨y0, o0, r0⟩ := opn9 g0 (Cw (by omega) hB)
  have g1 : DataW.trod _ _ _ _ _ _ _ 44 ((List.drop 1 _).take (Tryz.prog.cellsOf 44)) = _ := hf 1 _ rfl
  have c1 : Tryz.prog.cellsOf 44 = 1 := by kernel_rfl
  rw [c1, List.getElem?_eq_getElem (by omega)] at g1
  obtain ⟨y1, o1, r1⟩ := opn44 g1 (Cw (by omega) hB)
  have g2 : DataW.trod _ _ _ _ _ _ _ 3 ((List.drop 2 _).take (Tryz.prog.cellsOf 3)) = _ := hf 2 _ rfl
  have c2 : Tryz.prog.cellsOf 3 = 1 := by kernel_rfl
  rw [c2, List.getElem?_eq_getElem (by omega)] at g2
  obtain ⟨y2, o2, r2⟩ := opn3 g2 (Cw (by omega) hB)
  refine ⟨⟨y0, y1, y2⟩, by simp only [Ajp, o0, o1, o2, Bool.and_self], ?_⟩
  exact (CF r0 rfl (CF r1 rfl (CF r2 rfl (Lf hlen))))
theorem opn27 : EI Tryz.prog 27 (fun ys : (List AB) => [B4 3 (ys.map BJ)]) (fun ys : (List AB) => ys.all Ajp && decide (ys.length ≤ 1048576)) := EI.slice Tryz.underlying27 (by kernel_rfl) (by decide) opn78 GI (fun _ => rfl)
-- struct CX
theorem opn62 : EI Tryz.prog 62 A2 Ajs := fun h hB => by
  obtain ⟨xs, k, _, hxe, hlen, hxl, hf⟩ := DataW.trod_struct Tryz.underlying62 h
  rw [hxe] at hB
  have hxl : xs.length = 3 := hxl
  have ct : Tryz.prog.cellsOf 62 = 3 := by kernel_rfl
  rw [ct] at hlen
  have g0 : DataW.trod _ _ _ _ _ _ _ 9 ((List.drop 0 _).take (Tryz.prog.cellsOf 9)) = _ := hf 0 _ rfl
  have c0 : Tryz.prog.cellsOf 9 = 1 := by kernel_rfl
  rw [c0, List.getElem?_eq_getElem (by omega)] at g0
  obtain ⟨y0, o0, r0⟩ := opn9 g0 (Cw (by omega) hB)
  have g1 : DataW.trod _ _ _ _ _ _ _ 9 ((List.drop 1 _).take (Tryz.prog.cellsOf 9)) = _ := hf 1 _ rfl
  have c1 : Tryz.prog.cellsOf 9 = 1 := by kernel_rfl
  rw [c1, List.getElem?_eq_getElem (by omega)] at g1
  obtain ⟨y1, o1, r1⟩ := opn9 g1 (Cw (by omega) hB)
  have g2 : DataW.trod _ _ _ _ _ _ _ 9 ((List.drop 2 _).take (Tryz.prog.cellsOf 9)) = _ := hf 2 _ rfl
  have c2 : Tryz.prog.cellsOf 9 = 1 := by kernel_rfl
  rw [c2, List.getElem?_eq_getElem (by omega)] at g2
  obtain ⟨y2, o2, r2⟩ := opn9 g2 (Cw (by omega) hB)
  refine ⟨⟨y0, y1, y2⟩, by simp only [Ajs, o0, o1, o2, Bool.and_self], ?_⟩
  exact (CF r0 rfl (CF r1 rfl (CF r2 rfl (Lf hlen))))
theorem opn28 : EI Tryz.prog 28 (fun ys : (List CX) => [B4 3 (ys.map A2)]) (fun ys : (List CX) => ys.all Ajs && decide (ys.length ≤ 1048576)) := EI.slice Tryz.underlying28 (by kernel_rfl) (by decide) opn62 Ns (fun _ => rfl)
theorem opn48 : EI Tryz.prog 48 (fun ys : (List (List Ab)) => [B4 1 (ys.map B5)]) (fun ys : (List (List Ab)) => ys.all (fun ys : (List Ab) => ys.all AeO && decide (ys.length ≤ 1048576)) && decide (ys.length ≤ 1048576)) := EI.slice Tryz.underlying48 (by kernel_rfl) (by decide) opn44 DS (fun _ => rfl)
-- struct A6
theorem opn50 : EI Tryz.prog 50 Ce Ajt := fun h hB => by
  obtain ⟨xs, k, _, hxe, hlen, hxl, hf⟩ := DataW.trod_struct Tryz.underlying50 h
  rw [hxe] at hB
  have hxl : xs.length = 2 := hxl
  have ct : Tryz.prog.cellsOf 50 = 2 := by kernel_rfl
  rw [ct] at hlen
  have g0 : DataW.trod _ _ _ _ _ _ _ 9 ((List.drop 0 _).take (Tryz.prog.cellsOf 9)) = _ := hf 0 _ rfl
  have c0 : Tryz.prog.cellsOf 9 = 1 := by kernel_rfl
  rw [c0, List.getElem?_eq_getElem (by omega)] at g0
  obtain ⟨y0, o0, r0⟩ := opn9 g0 (Cw (by omega) hB)
  have g1 : DataW.trod _ _ _ _ _ _ _ 48 ((List.drop 1 _).take (Tryz.prog.cellsOf 48)) = _ := hf 1 _ rfl
  have c1 : Tryz.prog.cellsOf 48 = 1 := by kernel_rfl
  rw [c1, List.getElem?_eq_getElem (by omega)] at g1
  obtain ⟨y1, o1, r1⟩ := opn48 g1 (Cw (by omega) hB)
  refine ⟨⟨y0, y1⟩, by simp only [Ajt, o0, o1, Bool.and_self], ?_⟩
  exact (CF r0 rfl (CF r1 rfl (Lf hlen)))
theorem opn29 : EI Tryz.prog 29 (fun ys : (List A6) => [B4 2 (ys.map Ce)]) (fun ys : (List A6) => ys.all Ajt && decide (ys.length ≤ 1048576)) := EI.slice Tryz.underlying29 (by kernel_rfl) (by decide) opn50 Sv (fun _ => rfl)
-- struct Co
theorem opn31 : EI Tryz.prog 31 C5 Alq := fun h hB => by
  obtain ⟨xs, k, _, hxe, hlen, hxl, hf⟩ := DataW.trod_struct Tryz.underlying31 h
  rw [hxe] at hB
  have hxl : xs.length = 5 := hxl
  have ct : Tryz.prog.cellsOf 31 = 10 := by kernel_rfl
  rw [ct] at hlen
  have g0 : DataW.trod _ _ _ _ _ _ _ 26 ((List.drop 0 _).take (Tryz.prog.cellsOf 26)) = _ := hf 0 _ rfl
  have c0 : Tryz.prog.cellsOf 26 = 6 := by kernel_rfl
  rw [c0, List.getElem?_eq_getElem (by omega)] at g0
  obtain ⟨y0, o0, r0⟩ := opn26 g0 (Cw (by omega) hB)
  have g1 : DataW.trod _ _ _ _ _ _ _ 27 ((List.drop 6 _).take (Tryz.prog.cellsOf 27)) = _ := hf 1 _ rfl
  have c1 : Tryz.prog.cellsOf 27 = 1 := by kernel_rfl
  rw [c1, List.getElem?_eq_getElem (by omega)] at g1
  obtain ⟨y1, o1, r1⟩ := opn27 g1 (Cw (by omega) hB)
  have g2 : DataW.trod _ _ _ _ _ _ _ 28 ((List.drop 7 _).take (Tryz.prog.cellsOf 28)) = _ := hf 2 _ rfl
  have c2 : Tryz.prog.cellsOf 28 = 1 := by kernel_rfl
  rw [c2, List.getElem?_eq_getElem (by omega)] at g2
  obtain ⟨y2, o2, r2⟩ := opn28 g2 (Cw (by omega) hB)
  have g3 : DataW.trod _ _ _ _ _ _ _ 4 ((List.drop 8 _).take (Tryz.prog.cellsOf 4)) = _ := hf 3 _ rfl
  have c3 : Tryz.prog.cellsOf 4 = 1 := by kernel_rfl
  rw [c3, List.getElem?_eq_getElem (by omega)] at g3
  obtain ⟨y3, o3, r3⟩ := opn4 g3 (Cw (by omega) hB)
  have g4 : DataW.trod _ _ _ _ _ _ _ 29 ((List.drop 9 _).take (Tryz.prog.cellsOf 29)) = _ := hf 4 _ rfl
  have c4 : Tryz.prog.cellsOf 29 = 1 := by kernel_rfl
  rw [c4, List.getElem?_eq_getElem (by omega)] at g4
  obtain ⟨y4, o4, r4⟩ := opn29 g4 (Cw (by omega) hB)
  refine ⟨⟨y0, y1, y2, y3, y4⟩, by simp only [Alq, o0, o1, o2, o3, o4, Bool.and_self], ?_⟩
  exact (CF r0 rfl (CF r1 rfl (CF r2 rfl (CF r3 rfl (CF r4 rfl (Lf hlen))))))
theorem contract (H : Type) (enc : TypeId × Value → H) (W : World) (base : Nat) (args : Array Value) (ds gs : List (DataW H)) (before : List MemPlace)
    (hval : ∀ (j : Nat) t v, Tryz.f3.params[j]? = some t → args[j]? = some v → Value.okWide Tryz.prog W .any base t v)
    (hW : DataW.Whole enc Tryz.prog Tryz.f3.params.toList Rows.hostDoesSpec.vars false W args.toList ds gs before)
    (hk : ∀ k, ((Rows.OpenSpec.upto Rows.hostDoesSpec)).cond = some k → k H (ds ++ gs) = true)
    (hz : (DataW.weightsEach Tryz.prog (Tryz.f3.params.toList ++ []) (ds ++ gs)).all (· ≤ reachBytes) = true) (hL : laidMet Tryz.prog UW W) :
    Calls Tryz.prog 3 args W fun e W' => ∃ v, e = .returned v ∧ Rows.hostDoesSpec.post enc Tryz.prog Tryz.f3 false true false false W args v W' := by
  have hE := AlN hL
  have hW' := hW
  obtain ⟨p, q, hA0, hV, hbf, hfz, hnd⟩ := hW
  have hA : DataW.TrodAll enc Tryz.prog W 0 (fun _ => true) true Tryz.f3.params.toList args.toList ds p := hA0
  rw [Tryz.params3] at hA hval hz
  obtain ⟨rfl, rfl⟩ := trodVars_none hV
  obtain ⟨v0, vs0, d0, ds0, p0, q0, hargs, hd0, hq0, h0, r0⟩ := trodAll_cons hA
  obtain ⟨hvn, hdn, hqn⟩ := trodAll_nil r0
  obtain rfl : args = #[v0] := by cases args; simp_all
  obtain rfl : ds = [d0] := by simp_all
  have hB : Rows.uptoBulkAll [d0] ≤ 1048576 := of_decide_eq_true (hk _ rfl)
  have hB0 : Rows.uptoBulk d0 ≤ 1048576 := Nat.le_trans (Rt (by simp)) hB
  obtain ⟨a0, e0, _⟩ := okWide_struct Tryz.underlying31 (hval 0 31 v0 rfl rfl)
  obtain ⟨y0, oy0, hr0⟩ := EI.valAgg (opn31) (by rw [e0] at h0; exact h0) hB0
  rw [← e0] at hr0
  obtain ⟨F, hF⟩ := law y0 oy0
  refine (Ah3 F y0 true hF W (ZW W) [v0] ⟨hr0, trivial⟩ (Agw hE)).mono fun e W' ⟨R, v, Ho, Z', he, ⟨hR, _⟩, hp, hs⟩ => ?_
  subst hR
  obtain rfl : v = .bool true := hp
  exact ⟨_, he, AeH AjF (by kernel_rfl) rfl rfl Ach hW' rfl rfl rfl (Agx hs)⟩
theorem witness_row (os : Os) {H : Type} (enc : TypeId × Value → H) :
    (Rows.OpenSpec.upto Rows.hostDoesSpec).preRow enc Tryz.prog Tryz.f3 Rows.hostDoesUptoRow.domain false Rows.hostDoesUptoRow.laid ((OL os).forCall (fun _ _ => 0) ⟨#[], #[.agg #[(.string ⟨#[]⟩), (.string ⟨#[]⟩), (.slice none 0 0), (.slice none 0 0), (.slice none 0 0), (.int .i64 0), (.slice none 0 0), (.slice none 0 0), (.bool false), (.slice none 0 0)]], []⟩).memory #[.agg #[(.string ⟨#[]⟩), (.string ⟨#[]⟩), (.slice none 0 0), (.slice none 0 0), (.slice none 0 0), (.int .i64 0), (.slice none 0 0), (.slice none 0 0), (.bool false), (.slice none 0 0)]] := by
  have hw : (DataW.whole enc Tryz.prog ((OL os).forCall (fun _ _ => 0) ⟨#[], #[.agg #[(.string ⟨#[]⟩), (.string ⟨#[]⟩), (.slice none 0 0), (.slice none 0 0), (.slice none 0 0), (.int .i64 0), (.slice none 0 0), (.slice none 0 0), (.bool false), (.slice none 0 0)]], []⟩).memory Tryz.f3.params.toList Rows.hostDoesSpec.vars false #[.agg #[(.string ⟨#[]⟩), (.string ⟨#[]⟩), (.slice none 0 0), (.slice none 0 0), (.slice none 0 0), (.int .i64 0), (.slice none 0 0), (.slice none 0 0), (.bool false), (.slice none 0 0)]].toList 8).map (fun x => (x.1, x.2.1)) =
      some ([.agg [.agg [.lit (.string []), .lit (.string []), .nil, .nil, .nil, .lit (.int .i64 0)], .nil, .nil, .lit (.bool false), .nil]], []) := by kernel_rfl
  obtain ⟨⟨x1, x2, x3⟩, hx, hx1⟩ := Option.map_eq_some_iff.1 hw
  simp only [Prod.mk.injEq] at hx1
  obtain ⟨rfl, rfl⟩ := hx1
  exact OpenSpec.preRow_of_cond 8 hx (by kernel_rfl) (fun k hk => by cases hk; kernel_rfl) (by kernel_rfl) (Ah2 os _)
theorem lifted (os : Os) (started : os.Started) (H : Type) (enc : TypeId × Value → H) (F : Stop.Interp) :
    ReturnsInHanded {} Tryz.checked os 3 .any ((Rows.OpenSpec.upto Rows.hostDoesSpec).preRow enc Tryz.prog Tryz.f3 Rows.hostDoesUptoRow.domain false Rows.hostDoesUptoRow.laid) (((Rows.OpenSpec.upto Rows.hostDoesSpec).at F).post enc Tryz.prog Tryz.f3 false true false false) := by
  refine returnsInHanded_of_row (C := Tryz.checked) (s := (Rows.OpenSpec.upto Rows.hostDoesSpec)) own started (by kernel_rfl) Tryz.func3
    (witness_row_atRef (enc := enc) (C := Tryz.checked) false (OL os) #[.agg #[(.string ⟨#[]⟩), (.string ⟨#[]⟩), (.slice none 0 0), (.slice none 0 0), (.slice none 0 0), (.int .i64 0), (.slice none 0 0), (.slice none 0 0), (.bool false), (.slice none 0 0)]] rfl (by kernel_rfl) (by kernel_rfl) (by kernel_rfl) (witness_row os enc)) ?_
  intro W base args ds gs before hval hW _ hk hz hL _ _
  exact contract H enc W base args ds gs before hval hW hk hz hL
theorem said : Rows.HostDoesUptoSaid :=
  OpenClaim.holds_of_cond 3 Tryz.f3 rfl rfl rfl rfl rfl rfl rfl ⟨rfl, rfl, rfl, rfl, rfl⟩ rfl rfl rfl rfl rfl (by kernel_rfl) Tryz.func3 (by kernel_rfl)
    (of_decide_eq_true (by kernel_rfl)) (by unfold Func.isWrapper; first | (rw [if_pos (by decide +kernel)]; kernel_rfl) | (rw [if_neg (by decide +kernel)]; exact ⟨rfl, rfl⟩))
    (fun os started H enc _ F => by rw [OpenClaim.pre_eq_preRow]; exact lifted os started H enc F)
theorem plain (f : FuncId) (fn : Func) (hf : Tryz.pinned.checked.prog.funcNamed "faas/faaslaw35.HostDoes" = some f) (hfn : Tryz.pinned.checked.prog.funcs[f]? = some fn) :
    true = Tryz.pinned.checked.prog.looks [] ∧ ∀ (j : Nat) t, fn.params[j]? = some t → Tryz.pinned.checked.prog.wantsStandIn t = false := by
  obtain rfl : f = 3 := Option.some.inj ((show Tryz.prog.funcNamed "faas/faaslaw35.HostDoes" = some 3 by kernel_rfl).symm.trans hf) |>.symm
  obtain rfl : fn = Tryz.f3 := (Option.some.inj (Tryz.func3.symm.trans hfn)).symm
  refine ⟨by kernel_rfl, fun j t ht => ?_⟩
  rw [Tryz.params3] at ht
  have hm := Array.mem_of_getElem? ht
  have hall : ∀ t ∈ (#[31] : Array TypeId), Tryz.prog.wantsStandIn t = false := by
    intro t ht
    have := List.all_eq_true.1 (show ([31] : List TypeId).all (fun t => !Tryz.prog.wantsStandIn t) = true by kernel_rfl) t (by simpa using ht)
    simpa using this
  exact hall t hm
theorem card : Rows.HostDoesUptoCardSaid :=
  Claim7.holds_tied_plain_at .later [] _ _ _ _ said (fun _ h => by cases h) (by kernel_rfl) (fun _ h => by cases h) hostDoesUpto_row_tie rfl ⟨rfl, rfl⟩ (by kernel_rfl) rfl plain (by kernel_rfl)
end Go.Proofs.YtphnhpcjnmmhiaaGreatDoor.lawHostDoes
namespace Go.Proofs.YtphnhpcjnmmhiaaGreatDoor
theorem hostDoes_card : Rows.HostDoesUptoCardSaid := lawHostDoes.card
end Go.Proofs.YtphnhpcjnmmhiaaGreatDoor
#print axioms Go.Proofs.YtphnhpcjnmmhiaaGreatDoor.hostDoes_card
