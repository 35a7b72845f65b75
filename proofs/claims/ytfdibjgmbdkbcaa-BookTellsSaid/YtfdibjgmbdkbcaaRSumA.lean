/-
  What the constants of yearref1.Sum are, and what its words mean: no walk, no conditions.
-/
import Derived.Test.YtfdibjgmbdkbcaaPrimes
import Derived.Test.YtfdibjgmbdkbcaaBlockA
import Derived.Test.YtfdibjgmbdkbcaaRoot
namespace Go.Proofs.Ytfdibjgmbdkbcaa
open Go.RowKit

theorem roots_k : ((primesTo 310).map fun p => rootS p false) = Sha.Kc := by decide +kernel
theorem roots_h : (((primesTo 310).take 8).map fun p => rootS p true) = Sha.H0.toList := by decide +kernel
theorem primes_small : ∀ p ∈ primesTo 310, p < 4294967296 := fun p hp => by have := (primesTo_ge 310 p hp).2; omega

theorem andNot32 (x y : UInt32) : bits .andNot .u32 (x.toNat : Int) (y.toNat : Int) = ((x &&& ~~~y).toNat : Int) := by
  show IntKind.u32.wrap (((BitVec.ofInt 32 (x.toNat : Int) &&& ~~~ BitVec.ofInt 32 (y.toNat : Int)).toNat : Nat) : Int) = _
  rw [ofInt32, ofInt32]
  have h : (x.toBitVec &&& ~~~y.toBitVec).toNat = (x &&& ~~~y).toNat := rfl
  rw [h, IntKind.wrap_u32]
  have := (x &&& ~~~y).toNat_lt
  omega

theorem choose_eq (e f g : UInt32) : ((f &&& e) ||| (g &&& ~~~e)) = ((e &&& f) ^^^ (~~~e &&& g)) := by
  apply UInt32.eq_of_toBitVec_eq
  simp only [UInt32.toBitVec_or, UInt32.toBitVec_and, UInt32.toBitVec_xor, UInt32.toBitVec_not]
  ext i hi
  simp only [BitVec.getElem_or, BitVec.getElem_and, BitVec.getElem_xor, BitVec.getElem_not]
  cases e.toBitVec[i] <;> cases f.toBitVec[i] <;> cases g.toBitVec[i] <;> rfl
theorem most_eq (a b c : UInt32) : ((a &&& b) ||| (a &&& c) ||| (b &&& c)) = ((a &&& b) ^^^ (a &&& c) ^^^ (b &&& c)) := by
  apply UInt32.eq_of_toBitVec_eq
  simp only [UInt32.toBitVec_or, UInt32.toBitVec_and, UInt32.toBitVec_xor]
  ext i hi
  simp only [BitVec.getElem_or, BitVec.getElem_and, BitVec.getElem_xor]
  cases a.toBitVec[i] <;> cases b.toBitVec[i] <;> cases c.toBitVec[i] <;> rfl

/-- the reference's two sums of a round -/
theorem rt1_val (a b c d e f g h kj wj : UInt32) :
    h + (Sha.rotr e 6 ^^^ Sha.rotr e 11 ^^^ Sha.rotr e 25) + ((f &&& e) ||| (g &&& ~~~e)) + kj + wj = Sha.t1 ⟨a, b, c, d, e, f, g, h⟩ kj wj := by
  rw [choose_eq]; rfl
theorem rt2_val (a b c d e f g h : UInt32) :
    (Sha.rotr a 2 ^^^ Sha.rotr a 13 ^^^ Sha.rotr a 22) + ((a &&& b) ||| (a &&& c) ||| (b &&& c)) = Sha.t2 ⟨a, b, c, d, e, f, g, h⟩ := by
  rw [most_eq]; rfl
theorem rsched_val (x16 x7 x15 x2 : UInt32) : x16 + (Sha.rotr x15 7 ^^^ Sha.rotr x15 18 ^^^ (x15 >>> 3)) + x7 + (Sha.rotr x2 17 ^^^ Sha.rotr x2 19 ^^^ (x2 >>> 10)) = x16 + x7 + Sha.sig0 x15 + Sha.sig1 x2 := by
  show x16 + Sha.sig0 x15 + x7 + Sha.sig1 x2 = _
  rw [UInt32.add_assoc x16 (Sha.sig0 x15) x7, UInt32.add_comm (Sha.sig0 x15) x7, ← UInt32.add_assoc]

/-- a word of the first so many of four bytes -/
def wordTo (l : Bs) : UInt32 := l.foldl (fun x c => x * 256 + c.toUInt32) 0
theorem wordTo_snoc (l : Bs) (c : UInt8) : wordTo (l ++ [c]) = wordTo l * 256 + c.toUInt32 := by simp [wordTo]
theorem wordTo_four (p q r s : UInt8) : wordTo [p, q, r, s] = Sha.word p q r s := by
  show ((((0 * 256 + p.toUInt32 : UInt32) * 256 + q.toUInt32 : UInt32) * 256 + r.toUInt32 : UInt32) * 256 + s.toUInt32 : UInt32) = Sha.word p q r s
  unfold Sha.word
  have hp := p.toNat_lt
  have hq := q.toNat_lt
  have hr := r.toNat_lt
  have hs := s.toNat_lt
  apply UInt32.toNat_inj.1
  simp only [UInt32.toNat_or, UInt32.toNat_add, UInt32.toNat_mul, UInt32.toNat_shiftLeft, UInt8.toNat_toUInt32, UInt32.reduceToNat, Nat.reduceMod]
  rw [Nat.shiftLeft_eq, Nat.shiftLeft_eq, Nat.shiftLeft_eq, Nat.or_assoc, Nat.or_assoc,
    Nat.mod_eq_of_lt (a := p.toNat * 2 ^ 24) (by omega), Nat.mod_eq_of_lt (a := q.toNat * 2 ^ 16) (by omega), Nat.mod_eq_of_lt (a := r.toNat * 2 ^ 8) (by omega)]
  have e3 : (r.toNat * 2 ^ 8 ||| s.toNat) = r.toNat * 2 ^ 8 + s.toNat := by
    rw [Nat.mul_comm]; exact (Nat.two_pow_add_eq_or_of_lt hs _).symm
  have e2 : (q.toNat * 2 ^ 16 ||| (r.toNat * 2 ^ 8 ||| s.toNat)) = q.toNat * 2 ^ 16 + (r.toNat * 2 ^ 8 + s.toNat) := by
    rw [e3, Nat.mul_comm q.toNat]; exact (Nat.two_pow_add_eq_or_of_lt (by omega) _).symm
  have e1 : (p.toNat * 2 ^ 24 ||| (q.toNat * 2 ^ 16 ||| (r.toNat * 2 ^ 8 ||| s.toNat))) = p.toNat * 2 ^ 24 + (q.toNat * 2 ^ 16 + (r.toNat * 2 ^ 8 + s.toNat)) := by
    rw [e2, Nat.mul_comm p.toNat]; exact (Nat.two_pow_add_eq_or_of_lt (by omega) _).symm
  rw [e1]
  omega
theorem mul256 (x : UInt32) (c : UInt8) : IntKind.u32.wrap (IntKind.u32.wrap ((x.toNat : Int) * 256) + (c.toUInt32.toNat : Int)) = ((x * 256 + c.toUInt32).toNat : Int) := by
  have h : IntKind.u32.wrap ((x.toNat : Int) * 256) = ((x * 256).toNat : Int) := by
    rw [UInt32.toNat_mul, IntKind.wrap_u32]
    show _ = ((x.toNat * 256 % 2 ^ 32 : Nat) : Int)
    omega
  rw [h, wadd32]
end Go.Proofs.Ytfdibjgmbdkbcaa
