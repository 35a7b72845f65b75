/-
  Words for memory: a byte, or two, laid ahead of an append. No conditions.
-/
import Derived.Test.YtfdibjgmbdkbcaaMem3
namespace Go.Proofs.Ytfdibjgmbdkbcaa
open Go.RowKit
/-- append(v, c), of one byte -/
theorem byte_prep {w : World} {B : Nat} {v : Value} {l : Bs} (c : UInt8) (hown : OwnB w B v l) :
    Own (w.alloc (.cells #[bv c] 5)) B 5 1 v l.length (l.map bv) ∧ SlAt (w.alloc (.cells #[bv c] 5)) (fun k => k = w.heap.size) 1 (.slice (some ⟨w.heap.size, 0, none⟩) 1 1) 1 [bv c] :=
  ⟨hown.alloc _, SlAt.new w 5 [bv c] 1 rfl (by decide)⟩
theorem OwnB.snoc_ {w : World} {B : Nat} {v : Value} {l : Bs} {c : UInt8} (h : Own w B 5 1 v (l.length + 1) (l.map bv ++ [.int .u8 (c.toNat : Int)])) : OwnB w B v (l ++ [c]) := by
  unfold OwnB
  rw [List.length_append, List.map_append]
  exact h
end Go.Proofs.Ytfdibjgmbdkbcaa
