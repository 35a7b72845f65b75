/-
  From the form's readings to the walks' words: what reads as a slice of bytes, or of slices of bytes. No conditions.
-/
import Derived.Test.YtfdibjgmbdkbcaaRows
import Derived.WalkKit
import Derived.ProofKit
import Derived.OpenShut
import Derived.ChangeOld
import Derived.Below
import Derived.Deep.Slices
import Derived.SizedLaws
import Derived.Test.YtfdibjgmbdkbcaaYGa
namespace Go.Proofs.Ytfdibjgmbdkbcaa
open Go.ChangeShapes Go.WideShapes Go.ChangeAt Go.RowKit Go.Deep
theorem ownProg:ownKnob Try.prog.godebug=none:=by kernel_rfl
theorem laidOutProg:laidOutB Try.prog=true:=by kernel_rfl
section
variable {H:Type} {enc:TypeId × Value->H} {w:World} {base fuel:Nat} {spare:Nat->Bool} {held:Bool}
end
end Go.Proofs.Ytfdibjgmbdkbcaa
