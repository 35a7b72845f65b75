/-
  THE WALK of yearlaw1.ShaTells. Condition: bytes, not too many.
-/
import Derived.Test.YtfdibjgmbdkbcaaRSumC
import Derived.Test.YtfdibjgmbdkbcaaSame
namespace Go.Proofs.Ytfdibjgmbdkbcaa
open Go.RowKit Go.Lib

set_option maxHeartbeats 1000000 in
theorem shaTells_walk (w : World) (v : Value) (l : Bs) (hl : Bytes w (fun _ => True) v l) (hz : l.length ≤ 140737488355200) :
    Calls Try.prog 3 #[v] w fun e w' => e = .returned (.bool true) ∧ Below w.heap.size w w' := by
  obtain ⟨A1, c1, hv1, _, _⟩ := hl.form'
  subst hv1
  go_enter Try.func3, Try.ntmps3
  go_wp2_with fail
  refine (sum_any w _ _ l hl hz).mono ?_
  rintro e w1 ⟨v1, rfl, hown1, hx1⟩
  have hl1 := SlAt.below hl hx1
  go_wp2_with fail
  refine (refsum_any w1 _ _ l hl1 hz).mono ?_
  rintro e w2 ⟨v2, rfl, hown2, hx2⟩
  have hb1 := SlAt.below (OwnB.bytes hown1) hx2
  have hb2 := OwnB.bytes hown2
  go_wp2_with fail
  refine (same_any w2 _ _ v1 v2 _ _ hb1 hb2).mono ?_
  rintro e w3 ⟨rfl, nd, rfl⟩
  go_wp2_with fail
  go_ret
  exact ⟨by simp, below_drewN (hx1.trans (hx2.mono hx1.size)) nd⟩
end Go.Proofs.Ytfdibjgmbdkbcaa
