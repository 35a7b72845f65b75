/-
  THE WALK of book.number. Conditions: what is read is a few bytes.
-/
import Derived.Test.YtfdibjgmbdkbcaaBookA
namespace Go.Proofs.Ytfdibjgmbdkbcaa
open Go.RowKit Go.Lib


theorem or_nat (x y : Nat) (h : y < 256) : (x * 256) ||| y = x * 256 + y := by
  have := Nat.shiftLeft_add_eq_or_of_lt (i := 8) (b := y) h x
  rw [Nat.shiftLeft_eq] at this
  exact this.symm
theorem or_i64 (x : Nat) (y : UInt8) (h : x < 281474976710656) : bits .or .i64 ((x : Int) * 256) (y.toNat : Int) = ((x * 256 + y.toNat : Nat) : Int) := by
  have hy := y.toNat_lt
  show IntKind.i64.wrap ((BitVec.ofInt 64 ((x : Int) * 256) ||| BitVec.ofInt 64 (y.toNat : Int)).toNat : Int) = _
  have e : ((x : Int) * 256) = ((x * 256 : Nat) : Int) := by omega
  rw [e, BitVec.ofInt_natCast, BitVec.ofInt_natCast, BitVec.toNat_or, BitVec.toNat_ofNat, BitVec.toNat_ofNat, Nat.mod_eq_of_lt (by omega), Nat.mod_eq_of_lt (by omega), or_nat x _ (by omega)]
  exact IntWalk.i64_in _ (by omega)

set_option maxRecDepth 100000 in
set_option maxHeartbeats 1000000 in
theorem number_any (w : World) (F : Nat → Prop) (v : Value) (l : Bs) (hv : Bytes w F v l) (hl : l.length ≤ 6) :
    Calls Try.prog 105 #[v] w fun e w' => e = .returned (.int .i64 (Bk.num l : Nat)) ∧ w' = w := by
  obtain ⟨A, c, rfl, hac, hcm, hal, hA⟩ := hv
  unfold maxLen at hcm
  go_enter Try.func105, Try.ntmps105
  go_wp2_with fail
  go_loopg [3, 8] l.length (fun f v i wr => ∃ j : Nat, j + f = l.length ∧ i = .int .i64 (j : Int) ∧ (∃ x : Nat, v = .int .i64 (x : Int) ∧ Hid (x = Bk.num (l.take j))) ∧ wr = w)
  case atStart => exact ⟨0, by omega, rfl, ⟨0, rfl, Lib.hid rfl⟩, rfl⟩
  case round =>
    obtain ⟨j, hj, rfl, ⟨x, rfl, HX⟩, hw⟩ := hrel
    subst hw
    by_cases hlt : j < l.length
    · obtain ⟨p, off, rfl, _, _, hc⟩ := hA (by omega)
      have hcj := hc j (bv l[j]) (by simp [hlt])
      unfold bv at hcj
      have hltB : (j : Int) < (l.length : Int) := by omega
      have hnx : Bk.num (l.take (j + 1)) = Bk.num (l.take j) * 256 + l[j].toNat := by
        rw [List.take_succ_eq_append_getElem hlt]; simp only [Bk.num, Bk.numF, List.foldl_append]; rfl
      have hb := Bk.num_lt (l.take j)
      rw [List.length_take, Nat.min_eq_left (by omega), ← HX.out] at hb
      have hb2 : x < 256 ^ 6 := Nat.lt_of_lt_of_le hb (Nat.pow_le_pow_right (by omega) (by omega))
      have hb3 : x < 281474976710656 := hb2
      have hu8 := l[j].toNat_lt
      generalize l[j] = y at *
      have HN := Lib.hid hnx
      clear hnx hb hb2 hc hA
      have HO := Lib.hid (or_i64 x y (by omega))
      go_wp2_with fail
      go_roundg (gk - 1)
      case measure => omega
      case rel => exact ⟨j + 1, by omega, by go_num, ⟨x * 256 + y.toNat, by rw [HO.out], Lib.hid (by rw [HN.out, HX.out])⟩, rfl⟩
    · have hltB : decide ((j : Int) < (l.length : Int)) = false := by simp; omega
      have hall : l.take j = l := List.take_of_length_le (by omega)
      have HA := Lib.hid hall
      clear hall
      go_wp2_with fail
      go_ret
      exact ⟨by rw [HX.out, HA.out]; rfl, rfl⟩
end Go.Proofs.Ytfdibjgmbdkbcaa
