/-
  What comes in: records, and books. No conditions.
-/
import Derived.Test.YtfdibjgmbdkbcaaOpenH
import Derived.Test.YtfdibjgmbdkbcaaBook
namespace Go.Proofs.Ytfdibjgmbdkbcaa
open Go.ChangeShapes Go.WideShapes Go.ChangeAt Go.RowKit Go.Deep
set_option maxRecDepth 100000 in
theorem opensRec : Opens Try.prog 61 Rec :=
  opens_of (fun r : Rec => (r.sh, r.fr, r.to, r.sz, r.root)) (fun p => ⟨p.1, p.2.1, p.2.2.1, p.2.2.2.1, p.2.2.2.2⟩) (fun _ => rfl)
    (opens_struct Try.underlying61 (by kernel_rfl) (opensF_cons rfl opensInt (opensF_cons rfl opensInt (opensF_cons rfl opensInt (opensF_one rfl opensHead)))))
set_option maxRecDepth 100000 in
theorem opensRecs : Opens Try.prog 62 (List Rec) := opens_list Try.underlying62 (by kernel_rfl) opensRec (by decide)
end Go.Proofs.Ytfdibjgmbdkbcaa
