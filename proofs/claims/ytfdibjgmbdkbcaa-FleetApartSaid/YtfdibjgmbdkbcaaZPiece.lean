/-
  A piece of bytes, and a tail. No conditions.
-/
import Derived.Test.YtfdibjgmbdkbcaaZRepr
namespace Go.Proofs.Ytfdibjgmbdkbcaa
open Go.RowKit

/-- a piece of bytes -/
theorem Bytes.piece {w : World} {F : Nat → Prop} {q off c : Nat} {l : Bs} (h : Bytes w F (.slice (some ⟨q, off, none⟩) l.length c) l) (i n : Nat) (hn : i + n ≤ l.length) :
    Bytes w F (.slice (some ⟨q, off + i, none⟩) n (c - i)) ((l.drop i).take n) := by
  have h1 := (rdL_bytes.2 h).rest (k := i) (by omega)
  have h2 := h1.first n (by rw [List.length_drop]; omega)
  rw [show Rp.sz UInt8 = 1 from rfl, Nat.mul_one] at h2
  exact rdL_bytes.1 h2
theorem Bytes.tail {w : World} {F : Nat → Prop} {q off c : Nat} {l : Bs} (h : Bytes w F (.slice (some ⟨q, off, none⟩) l.length c) l) (i : Nat) (hn : i ≤ l.length) :
    Bytes w F (.slice (some ⟨q, off + i, none⟩) (l.length - i) (c - i)) (l.drop i) := by
  have h1 := (rdL_bytes.2 h).rest (k := i) (by omega)
  rw [show Rp.sz UInt8 = 1 from rfl, Nat.mul_one] at h1
  exact rdL_bytes.1 h1
end Go.Proofs.Ytfdibjgmbdkbcaa
