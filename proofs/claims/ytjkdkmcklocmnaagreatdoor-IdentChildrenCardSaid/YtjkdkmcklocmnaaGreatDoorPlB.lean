/-
  Prefixes, suffixes, cuts: plain functions on lists of bytes. No program in sight.
-/
import Derived.Test.YtjkdkmcklocmnaaGreatDoorPlA
import Derived.Lib.Bytealg
namespace Go.Proofs.YtjkdkmcklocmnaaGreatDoor
open Go
def hasPre (p q : List UInt8) : Bool := decide (q.length ≤ p.length) && decide (p.take q.length = q)
def hasSuf (p q : List UInt8) : Bool := decide (q.length ≤ p.length) && decide (p.drop (p.length - q.length) = q)
def trimSuf (p q : List UInt8) : List UInt8 := if hasSuf p q = true then p.take (p.length - q.length) else p
theorem hasSuf_len {p q : List UInt8} (h : hasSuf p q = true) : q.length ≤ p.length := by
  simp [hasSuf] at h; exact h.1
theorem idx_bd (p : List UInt8) (c : UInt8) : -1 ≤ Lib.indexByte p c ∧ Lib.indexByte p c < p.length := by
  induction p with
  | nil => simp [Lib.indexByte]
  | cons b r ih =>
    unfold Lib.indexByte
    simp only [List.length_cons]
    split
    · omega
    · split <;> omega
def cutB (p : List UInt8) (c : UInt8) : List UInt8 := if 0 ≤ Lib.indexByte p c then p.take (Lib.indexByte p c).toNat else p
def cutA (p : List UInt8) (c : UInt8) : List UInt8 := if 0 ≤ Lib.indexByte p c then p.drop (Lib.indexByte p c + 1).toNat else []
theorem cutB_len (p : List UInt8) (c : UInt8) : (cutB p c).length ≤ p.length := by unfold cutB; split <;> simp; omega
theorem cutA_len (p : List UInt8) (c : UInt8) : (cutA p c).length ≤ p.length := by unfold cutA; split <;> simp
def cutF (p : List UInt8) (c : UInt8) : Bool := decide (0 ≤ Lib.indexByte p c)
end Go.Proofs.YtjkdkmcklocmnaaGreatDoor
