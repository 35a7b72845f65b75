/-
  A block's two cells are stored, one behind the other: what is so behind it; no program. No conditions.
-/
import Derived.Test.YtfdibjgmbdkbcaaZRepr
namespace Go.Proofs.Ytfdibjgmbdkbcaa
open Go.RowKit
section
variable {w a : World} {g o B : Nat} {t e : TypeId} {cs : Array Value} {x y : Value}
theorem Blk.set2 (h : Blk w g t #[x, y]) (u v : Value) : Blk ((w.setCell ⟨g, 0, none⟩ u).setCell ⟨g, 1, none⟩ v) g t #[u, v] := (h.set_ 0 u).set_ 1 v
theorem Blk.far2 (h : Blk w o t cs) (hne : o ≠ g) (u v : Value) : Blk ((w.setCell ⟨g, 0, none⟩ u).setCell ⟨g, 1, none⟩ v) o t cs := (h.far (p := ⟨g, 0, none⟩) hne u).far (p := ⟨g, 1, none⟩) hne v
theorem below_set2 (h : Below B a w) (hg : B ≤ g) (u v : Value) : Below B a ((w.setCell ⟨g, 0, none⟩ u).setCell ⟨g, 1, none⟩ v) := (h.setCell (p := ⟨g, 0, none⟩) hg u).setCell (p := ⟨g, 1, none⟩) hg v
theorem Own.set2 {size n : Nat} {z : Value} {xs : List Value} (h : Own w B e size z n xs) (hg : z.ownBlock ≠ some g) (u v : Value) : Own ((w.setCell ⟨g, 0, none⟩ u).setCell ⟨g, 1, none⟩ v) B e size z n xs :=
  Own.setCell (p := ⟨g, 1, none⟩) (Own.setCell (p := ⟨g, 0, none⟩) h hg u) hg v
end
end Go.Proofs.Ytfdibjgmbdkbcaa
