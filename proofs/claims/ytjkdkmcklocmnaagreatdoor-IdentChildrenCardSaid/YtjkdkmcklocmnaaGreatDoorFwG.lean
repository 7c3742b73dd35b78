/-
  The library's tables and variables that the calls below read; strconv's two functions in the calculus's words.
-/
import Derived.Test.YtjkdkmcklocmnaaGreatDoorFwF
import Derived.Test.YtjkdkmcklocmnaaGreatDoorShelfN
import Derived.Lib.SmallJoins
import Derived.Lib.AppendIntMem
namespace Go.Proofs.YtjkdkmcklocmnaaGreatDoor
open Go Go.RowKit
set_option linter.unusedVariables false
/-- Above the package-level variables that are read. -/
noncomputable def nGlob : Nat := Nat.max 3 2 + 1
/-- What the package-level variables of the library hold. -/
structure Tabs (w : World) : Prop where
  pow : Lib.TabIs Tryz.prog w "internal/strconv.uint64pow10" .u64 Lib.pow10Tab
  rng : ∃ tp p, w.var? Tryz.prog "strconv.ErrRange" = some #[.iface tp p]
theorem gPow : Tryz.prog.globalNamed "internal/strconv.uint64pow10" = some 3 := by kernel_rfl
theorem gRng : Tryz.prog.globalNamed "strconv.ErrRange" = some 2 := by kernel_rfl
theorem nGlob_pow : 3 < nGlob := by decide +kernel
theorem nGlob_rng : 2 < nGlob := by decide +kernel
theorem Tabs.block (w w' : World) (h : ∀ k, k < nGlob → w'.heap[k]? = w.heap[k]?) (hT : Tabs w) : Tabs w' := by
  obtain ⟨tp, p, hr⟩ := hT.rng
  have hp := hT.pow
  unfold Lib.TabIs at hp
  refine ⟨?_, tp, p, ?_⟩
  · unfold Lib.TabIs
    unfold World.var? at hp ⊢
    rw [gPow] at hp ⊢
    simp only [Option.bind_some] at hp ⊢
    rw [h _ nGlob_pow]; exact hp
  · unfold World.var? at hr ⊢
    rw [gRng] at hr ⊢
    simp only [Option.bind_some] at hr ⊢
    rw [h _ nGlob_rng]; exact hr
/-- The room below the first object. -/
def Glob (w : World) (M : List Nat) : Prop := nGlob ≤ w.heap.size ∧ ∀ k ∈ M, nGlob ≤ k
theorem Tabs.st {w0 w : World} {M : List Nat} {H : List Ent} (hT : Tabs w0) (hG : Glob w0 M) (hw : St w0 M H w) : Tabs w :=
  Tabs.block w0 w (fun k hk => hw.old k (Nat.lt_of_lt_of_le hk hG.1) (fun hm => by have := hG.2 k hm; omega)) hT
theorem Glob.nil {w : World} (h : nGlob ≤ w.heap.size) : Glob w [] := ⟨h, by simp⟩
theorem Glob.st {w0 w : World} {M : List Nat} {H : List Ent} (hG : Glob w0 M) (hw : St w0 M H w) : nGlob ≤ w.heap.size := Nat.le_trans hG.1 hw.size
/-- Both, as the contracts take them. -/
structure Env (w : World) : Prop where
  tabs : Tabs w
  size : nGlob ≤ w.heap.size
theorem Env.st {w0 w : World} {M : List Nat} {H : List Ent} (hE : Env w0) (hM : ∀ k ∈ M, nGlob ≤ k) (hw : St w0 M H w) : Env w :=
  ⟨hE.tabs.st ⟨hE.size, hM⟩ hw, Nat.le_trans hE.size hw.size⟩
theorem Env.st0 {w0 w : World} {H : List Ent} (hE : Env w0) (hw : St w0 [] H w) : Env w := hE.st (by simp) hw
theorem B_data (p : List UInt8) : (B p).data.toList = p := by simp [B]
theorem itoa_c (m : Int) (h0 : -9223372036854775808 ≤ m) (h1 : m ≤ 9223372036854775807) (w : World) (hE : Env w) : Calls Tryz.prog 56 [.int .i64 m].toArray w (RetV w (.string (B (Lib.itoa m)))) :=
  (Tryz.strconv_Itoa m h0 h1 w hE.tabs.pow).mono fun e w' ⟨he, k, os, hw⟩ => ⟨he, by rw [hw]; exact St.of_below (Lib.below_grow _ _ (Nat.le_refl _) _ _)⟩
theorem atoi_ok (p : List UInt8) (hp : p.length ≤ 281474976710656) (v : Int) (h : Lib.atoiAll p = .ok v) (w : World) : Calls Tryz.prog 59 [.string (B p)].toArray w (RetV w (.tuple #[.int .i64 v, .nilIface])) :=
  (Tryz.strconv_Atoi_ok (B p) (by rw [B_size]; omega) v (by rw [B_data]; exact h) w).mono fun e w' ⟨he, hw⟩ => ⟨he, by
    rcases hw with rfl | ⟨t, rfl⟩
    · exact St.refl _ _
    · exact St.of_below (Joins.below_bytesWorld _ _ _ _ (Nat.le_refl _))⟩
theorem atoi_range (p : List UInt8) (hp : p.length ≤ 281474976710656) (h : Lib.atoiAll p = .range) (w : World) (hE : Env w) :
    Calls Tryz.prog 59 [.string (B p)].toArray w (Ret w [] (fun v H => ∃ m t b, v = .tuple #[.int .i64 m, .iface t b] ∧ H = [])) := by
  obtain ⟨tp, q, hr⟩ := hE.tabs.rng
  exact (Tryz.strconv_Atoi_range_var (B p) (by rw [B_size]; omega) (by rw [B_data]; exact h) tp q w hr).mono fun e w' ⟨N, he, _, _, hb⟩ => ⟨_, _, he, St.of_below hb, _, _, _, rfl, rfl⟩
end Go.Proofs.YtjkdkmcklocmnaaGreatDoor
