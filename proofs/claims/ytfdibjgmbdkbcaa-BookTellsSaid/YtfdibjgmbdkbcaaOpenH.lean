/-
  What comes in: heads. No conditions.
-/
import Derived.Test.YtfdibjgmbdkbcaaOpen
namespace Go.Proofs.Ytfdibjgmbdkbcaa
open Go.ChangeShapes Go.WideShapes Go.ChangeAt Go.RowKit Go.Deep
set_option maxRecDepth 100000 in
theorem opensHead : Opens Try.prog 39 (Int × List UInt8) := opens_struct Try.underlying39 (by kernel_rfl) (opensF_cons rfl opensInt (opensF_one rfl opensBytes))
section
variable {H : Type} {enc : TypeId × Value → H} {w : World} {base b0 : Nat} {spare : Nat → Bool} {held : Bool} {r : Reach} {v : Value} {d : DataW H} {p : List MemPlace}
set_option maxRecDepth 100000 in
theorem trod_head (hv : Value.okWide Try.prog w r b0 39 v) (h : DataW.Trod enc Try.prog w base spare held 39 v d p) : ∃ n u l, v = .agg #[.int .i64 n, u] ∧ Bytes w (fun _ => True) u l := by
  obtain ⟨cs, ⟨n, l⟩, rfl, c1, c2, rfl, h1, u, rfl, h2⟩ := open_agg Try.underlying39 opensHead hv h
  have h1' : c1 = [.int .i64 n] := h1
  subst h1'
  exact ⟨n, u, l, rfl, rdL_bytes.1 h2⟩
set_option maxRecDepth 100000 in
theorem open_blist (hv : Value.okWide Try.prog w r b0 40 v) (h : DataW.Trod enc Try.prog w base spare held 40 v d p) : ∃ l, BList w (fun _ => True) v l ∧ ((d = .nil ∧ l = []) ∨ ∃ es ss, d = .slice es ss ∧ es.length = l.length) := by
  obtain ⟨l, h1, h2⟩ := open_list Try.underlying40 opensBlist hv h
  exact ⟨l, rdL_blist.1 h1, h2⟩
end
end Go.Proofs.Ytfdibjgmbdkbcaa
