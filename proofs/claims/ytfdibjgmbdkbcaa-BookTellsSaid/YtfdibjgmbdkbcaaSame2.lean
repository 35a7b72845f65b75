/-
  THE WALK of yearref2.Same, of lists that are the same. Conditions: what is read is lists of texts.
-/
import Derived.Test.YtfdibjgmbdkbcaaSame
import Derived.Test.YtfdibjgmbdkbcaaTreeD
namespace Go.Proofs.Ytfdibjgmbdkbcaa
open Go.RowKit Go.Lib

set_option maxRecDepth 100000 in
set_option maxHeartbeats 1000000 in
theorem same2_yes (w : World) (F F' : Nat → Prop) (va vb : Value) (a : List Bs) (ha : BList w F va a) (hb : BList w F' vb a) :
    Calls Try.prog 44 #[va, vb] w fun e w' => e = .returned (.bool true) ∧ ∃ n, w' = w.drewN n := by
  obtain ⟨A, c, hA, hac, hcm, _⟩ := ha.shape
  obtain ⟨B, d, hB, hbd, hdm, _⟩ := hb.shape
  subst hA hB
  unfold maxLen at hcm hdm
  have hn : ((a.length : Int) != (a.length : Int)) = false := by simp
  go_enter Try.func44, Try.ntmps44
  go_wp2_with fail
  go_loopg [13] a.length (fun k i wr => ∃ j m : Nat, j + k = a.length ∧ i = .int .i64 (j : Int) ∧ wr = w.drewN m)
  case atStart => exact ⟨0, 0, by omega, rfl, rfl⟩
  case round =>
    obtain ⟨j, m, hj, rfl, hwr⟩ := hrel
    have ha' : BList wr F (.slice A a.length c) a := by rw [hwr]; exact ha.drewN m
    have hb' : BList wr F' (.slice B a.length d) a := by rw [hwr]; exact hb.drewN m
    have HW := Lib.hid hwr
    clear hwr
    by_cases hlt : j < a.length
    · obtain ⟨b1, o1, u1, hA1, p1, _, hb1, hu1⟩ := BList.at_ ha' hlt
      obtain ⟨b2, o2, u2, hA2, p2, _, hb2, hu2⟩ := BList.at_ hb' hlt
      subst hA1 hA2
      have hltB : (j : Int) < (a.length : Int) := by omega
      have h0B : (0 : Int) ≤ (j : Int) := by omega
      have hsame := fun n => same_any (wr.drewN n) _ _ _ _ _ _ (hu1.drewN n) (hu2.drewN n)
      simp only [beq_self_eq_true] at hsame
      have HSM := Lib.hid hsame
      clear hsame
      go_wp2_with fail
      go_quiet ((go_at_call 13; exact Calls.quiet_of (HSM.out _)))
      go_wp2_with fail
      go_roundg (gk - 1)
      case measure => omega
      case rel => exact ⟨j + 1, _, by omega, by go_num, by rw [HW.out, World.drewN_drewN]⟩
    · have hltB : decide ((j : Int) < (a.length : Int)) = false := decide_eq_false (by omega)
      go_wp2_with fail
      go_ret
      exact ⟨rfl, m, HW.out⟩
end Go.Proofs.Ytfdibjgmbdkbcaa
