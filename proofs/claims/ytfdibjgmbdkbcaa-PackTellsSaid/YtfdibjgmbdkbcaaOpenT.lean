/-
  What comes in: tokens. No conditions.
-/
import Derived.Test.YtfdibjgmbdkbcaaOpen
import Derived.Test.YtfdibjgmbdkbcaaPackB
namespace Go.Proofs.Ytfdibjgmbdkbcaa
open Go.ChangeShapes Go.WideShapes Go.ChangeAt Go.RowKit Go.Deep
set_option maxRecDepth 100000 in
theorem opensTok : Opens Try.prog 126 Pk.Tok :=
  opens_of (fun t : Pk.Tok => (t.len, t.back, t.byte)) (fun p => ⟨p.1, p.2.1, p.2.2⟩) (fun _ => rfl)
    (opens_struct Try.underlying126 (by kernel_rfl) (opensF_cons rfl opensInt (opensF_cons rfl opensInt (opensF_one rfl opensU8))))
set_option maxRecDepth 100000 in
theorem opensToks : Opens Try.prog 26 (List Pk.Tok) := opens_list Try.underlying26 (by kernel_rfl) opensTok (by decide)
end Go.Proofs.Ytfdibjgmbdkbcaa
