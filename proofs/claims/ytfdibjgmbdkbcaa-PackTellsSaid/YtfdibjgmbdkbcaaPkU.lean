/-
  THE PLAIN LAW of unpacking, as the walk comes to it, no program; and bits of integers. No conditions.
-/
import Derived.Laws.BitsAllLaws
import Derived.Laws.BitsLemmas
import Derived.IntWalk
import Derived.Test.YtfdibjgmbdkbcaaPkL
namespace Go.Proofs.Ytfdibjgmbdkbcaa
open Go.RowKit

theorem or_nat_ (x y : Nat) (h : y < 256) : (x * 256) ||| y = x * 256 + y := by
  have := Nat.shiftLeft_add_eq_or_of_lt (i := 8) (b := y) h x
  rw [Nat.shiftLeft_eq] at this
  exact this.symm
theorem or_i64_ (x y : Nat) (hx : x < 281474976710656) (hy : y < 256) : bits .or .i64 ((x : Int) * 256) (y : Int) = ((x * 256 + y : Nat) : Int) := by
  show IntKind.i64.wrap ((BitVec.ofInt 64 ((x : Int) * 256) ||| BitVec.ofInt 64 (y : Int)).toNat : Int) = _
  have e : ((x : Int) * 256) = ((x * 256 : Nat) : Int) := by omega
  rw [e, BitVec.ofInt_natCast, BitVec.ofInt_natCast, BitVec.toNat_or, BitVec.toNat_ofNat, BitVec.toNat_ofNat, Nat.mod_eq_of_lt (by omega), Nat.mod_eq_of_lt (by omega), or_nat_ x _ (by omega)]
  exact IntWalk.i64_in _ (by omega)
theorem and_i64_ (x k : Nat) (hx : x < 281474976710656) (hk : k < 62) : bits .and .i64 (x : Int) (((2 ^ k - 1 : Nat) : Int)) = ((x % 2 ^ k : Nat) : Int) := by
  have hp : 2 ^ k < 2 ^ 62 := Nat.pow_lt_pow_right (by omega) hk
  have hp1 : 0 < 2 ^ k := Nat.pow_pos (by omega)
  have hm : x % 2 ^ k ≤ x := Nat.mod_le _ _
  show IntKind.i64.wrap ((BitVec.ofInt 64 (x : Int) &&& BitVec.ofInt 64 (((2 ^ k - 1 : Nat) : Int))).toNat : Int) = _
  rw [BitVec.ofInt_natCast, BitVec.ofInt_natCast, BitVec.toNat_and, BitVec.toNat_ofNat, BitVec.toNat_ofNat, Nat.mod_eq_of_lt (by omega), Nat.mod_eq_of_lt (by omega), Nat.and_two_pow_sub_one_eq_mod]
  exact IntWalk.i64_in _ (by omega)
theorem and_one_ (x : Nat) (hx : x < 281474976710656) : bits .and .i64 (x : Int) 1 = ((x % 2 : Nat) : Int) := by
  have := and_i64_ x 1 hx (by omega)
  exact this
theorem and_1023_ (x : Nat) (hx : x < 281474976710656) : bits .and .i64 (x : Int) 1023 = ((x % 1024 : Nat) : Int) := by
  have := and_i64_ x 10 hx (by omega)
  exact this
namespace Pk
theorem one_fst (bs : Bs) (ok : Bool) : (one bs ok).1 < 256 := by
  cases bs with
  | nil => simp [one]
  | cons c bs => exact c.toNat_lt
theorem readT_n (flag : Bool) (s : St) : s.n + 1 ≤ (readT flag s).n := by
  unfold readT
  cases flag
  · simp
  · simp only [if_true]; omega
theorem grpR_n (size : Nat) : ∀ k fl s, s.n ≤ (grpR size k fl s).n
  | 0, _, s => Nat.le_refl _
  | k + 1, fl, s => by
    unfold grpR
    split
    · exact Nat.le_refl _
    · have := readT_n (fl % 2 == 1) s
      have := grpR_n size k (fl / 2) (readT (fl % 2 == 1) s)
      omega
theorem grpR_n1 (size k fl : Nat) (s : St) (h : s.n < size) : s.n + 1 ≤ (grpR size (k + 1) fl s).n := by
  unfold grpR
  rw [if_neg (by omega)]
  have := readT_n (fl % 2 == 1) s
  have := grpR_n size k (fl / 2) (readT (fl % 2 == 1) s)
  omega
theorem readT_lit (s : St) : readT false s = ⟨(one s.bs s.ok).2.1, (one s.bs s.ok).2.2, s.l ++ [lit (UInt8.ofNat (one s.bs s.ok).1)], s.n + 1⟩ := rfl
theorem readT_cp (s : St) : readT true s = ⟨(one (one s.bs s.ok).2.1 (one s.bs s.ok).2.2).2.1, (one (one s.bs s.ok).2.1 (one s.bs s.ok).2.2).2.2, s.l ++ [tokOf ((one s.bs s.ok).1 * 256 + (one (one s.bs s.ok).2.1 (one s.bs s.ok).2.2).1)],
    s.n + (((one s.bs s.ok).1 * 256 + (one (one s.bs s.ok).2.1 (one s.bs s.ok).2.2).1) / 1024 + 3)⟩ := rfl
theorem unR_stop {size f : Nat} {s : St} (h : ¬ (s.n < size ∧ s.ok = true)) : unR size f s = s := by
  cases f with
  | zero => rfl
  | succ f => unfold unR; rw [if_neg h]
theorem unR_go {size f : Nat} {s : St} (h : s.n < size ∧ s.ok = true) : unR size (f + 1) s = unR size f (grpR size 8 (one s.bs s.ok).1 ⟨(one s.bs s.ok).2.1, (one s.bs s.ok).2.2, s.l, s.n⟩) := by
  rw [unR, if_pos h]
theorem grpR_stop {size k fl : Nat} {s : St} (h : size ≤ s.n) : grpR size (k + 1) fl s = ⟨s.bs, s.ok && fl == 0, s.l, s.n⟩ := by rw [grpR, if_pos h]
theorem grpR_go {size k fl : Nat} {s : St} (h : ¬ size ≤ s.n) : grpR size (k + 1) fl s = grpR size k (fl / 2) (readT (fl % 2 == 1) s) := by rw [grpR, if_neg h]
end Pk
end Go.Proofs.Ytfdibjgmbdkbcaa
