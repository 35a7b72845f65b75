/-
  What comes in: right edges. No conditions.
-/
import Derived.Test.YtfdibjgmbdkbcaaOpenH
namespace Go.Proofs.Ytfdibjgmbdkbcaa
open Go.ChangeShapes Go.WideShapes Go.ChangeAt Go.RowKit Go.Deep
set_option maxRecDepth 100000 in
theorem opensEdge : Opens Try.prog 45 (Int × List (List UInt8)) := opens_struct Try.underlying45 (by kernel_rfl) (opensF_cons rfl opensInt (opensF_one rfl opensBlist))
section
variable {H : Type} {enc : TypeId × Value → H} {w : World} {base b0 : Nat} {spare : Nat → Bool} {held : Bool} {r : Reach} {v : Value} {d : DataW H} {p : List MemPlace}
set_option maxRecDepth 100000 in
theorem trod_edge (hv : Value.okWide Try.prog w r b0 45 v) (h : DataW.Trod enc Try.prog w base spare held 45 v d p) : ∃ n u l, v = .agg #[.int .i64 n, u] ∧ BList w (fun _ => True) u l := by
  obtain ⟨cs, ⟨n, l⟩, rfl, c1, c2, rfl, h1, u, rfl, h2⟩ := open_agg Try.underlying45 opensEdge hv h
  have h1' : c1 = [.int .i64 n] := h1
  subst h1'
  exact ⟨n, u, l, rfl, rdL_blist.1 h2⟩
end
end Go.Proofs.Ytfdibjgmbdkbcaa
