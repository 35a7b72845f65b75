/-
  THE WALK of yearref1.Same: it tells whether two lists of bytes are the same, and only reads. Conditions: both are read as bytes.
-/
import Derived.Test.YtfdibjgmbdkbcaaProg
import Derived.Test.YtfdibjgmbdkbcaaMem
import Derived.WalkKit
import Derived.WalkSpells
import Derived.WalkLawsBesides
import Derived.Deep.QuietTactic
import Derived.BigQuiet
namespace Go.Proofs.Ytfdibjgmbdkbcaa
open Go.RowKit

set_option maxHeartbeats 400000 in
theorem same_any (w : World) (F F' : Nat → Prop) (va vb : Value) (a b : Bs) (ha : Bytes w F va a) (hb : Bytes w F' vb b) :
    Calls Try.prog 13 #[va, vb] w fun e w' => e = .returned (.bool (a == b)) ∧ ∃ n, w' = w.drewN n := by
  obtain ⟨A, c, rfl, hac, hcm, hal, hA⟩ := ha
  obtain ⟨B, d, rfl, hbd, hdm, hbl, hB⟩ := hb
  unfold maxLen at hcm hdm
  by_cases hl : a.length = b.length
  · have hn : ((a.length : Int) != (b.length : Int)) = false := by simp [hl]
    have HL := Lib.hid hl
    clear hl
    go_enter Try.func13, Try.ntmps13
    go_wp2
    go_loopw [13] (fun i wr => ∃ k m : Nat, k ≤ a.length ∧ i = .int .i64 k ∧ a.take k = b.take k ∧ wr = w.drewN m) (fun i _ => a.length - (intOf i).toNat)
    case atStart => exact ⟨0, 0, Nat.zero_le _, rfl, by simp, rfl⟩
    case round =>
      obtain ⟨k, m, hk, rfl, hpre, rfl⟩ := hrel
      have HP := Lib.hid hpre
      clear hpre
      by_cases hlt : k < a.length
      · obtain ⟨p, off, rfl, _, _, hcA⟩ := hA (by omega)
        obtain ⟨q, off', rfl, _, _, hcB⟩ := hB (by have := HL.out; omega)
        have ca := hcA k (bv a[k]) (by simp [hlt])
        have hlt' : k < b.length := by have := HL.out; omega
        have cb := hcB k (bv b[k]) (by simp [hlt'])
        clear hcA hcB hA hB
        unfold bv at ca cb
        have hltB : (k : Int) < (b.length : Int) := by omega
        have hltA : (k : Int) < (a.length : Int) := by omega
        by_cases he : a[k] = b[k]
        · have hne : ((a[k].toNat : Int) != (b[k].toNat : Int)) = false := by simp [he]
          have hnext : a.take (k + 1) = b.take (k + 1) := by
            rw [List.take_succ_eq_append_getElem hlt, List.take_succ_eq_append_getElem hlt', HP.out, he]
          have HN := Lib.hid hnext
          clear he hnext
          go_wp2
          go_quiet (fail)
          go_wp2
          exact ⟨⟨k + 1, m + nq, by omega, by go_num, HN.out, rfl⟩, by simp [intOf]; omega⟩
        · have hne : ((a[k].toNat : Int) != (b[k].toNat : Int)) = true := u8_bne he
          have hab : (a == b) = false := by
            simp only [beq_eq_false_iff_ne, ne_eq]
            intro h
            subst h
            exact he rfl
          have HN := Lib.hid hab
          clear he hab
          go_wp2
          go_quiet (fail)
          go_wp2
          go_ret
          exact ⟨by rw [HN.out]; rfl, m + nq, World.drewN_drewN _ _ _⟩
      · have hab : a = b := by
          have h := HP.out
          rw [List.take_of_length_le (by omega), List.take_of_length_le (by have := HL.out; omega)] at h
          exact h
        have HN := Lib.hid hab
        clear hab
        go_wp2
        go_ret
        exact ⟨by simp [HN.out], m, rfl⟩
  · have hn : ((a.length : Int) != (b.length : Int)) = true := nat_bne hl
    have hab : (a == b) = false := by
      simp only [beq_eq_false_iff_ne, ne_eq]
      intro h
      exact hl (by rw [h])
    have HN := Lib.hid hab
    clear hl hab
    go_enter Try.func13, Try.ntmps13
    go_wp2
    go_ret
    exact ⟨by rw [HN.out]; rfl, 0, rfl⟩
end Go.Proofs.Ytfdibjgmbdkbcaa
