/-
  Plain law, no program: the model's sums and bits on uint32 and uint8, told by UInt32 and UInt8. No conditions.
-/
import Derived.Laws.BitsAllLaws
import Derived.Laws.BitsLemmas
import Derived.Test.YtfdibjgmbdkbcaaMem
namespace Go.Proofs.Ytfdibjgmbdkbcaa

theorem ofInt32 (x : UInt32) : BitVec.ofInt 32 (x.toNat : Int) = x.toBitVec := by
  apply BitVec.eq_of_toNat_eq
  rw [BitVec.ofInt_natCast, BitVec.toNat_ofNat, UInt32.toNat_toBitVec]
  exact Nat.mod_eq_of_lt x.toNat_lt

theorem or32 (x y : UInt32) : bits .or .u32 (x.toNat : Int) (y.toNat : Int) = ((x ||| y).toNat : Int) := by
  show IntKind.u32.wrap ((BitVec.ofInt 32 (x.toNat : Int) ||| BitVec.ofInt 32 (y.toNat : Int)).toNat : Int) = _
  rw [ofInt32, ofInt32, ← UInt32.toBitVec_or, UInt32.toNat_toBitVec, IntKind.wrap_u32]
  have := (x ||| y).toNat_lt
  omega
theorem and32 (x y : UInt32) : bits .and .u32 (x.toNat : Int) (y.toNat : Int) = ((x &&& y).toNat : Int) := by
  show IntKind.u32.wrap ((BitVec.ofInt 32 (x.toNat : Int) &&& BitVec.ofInt 32 (y.toNat : Int)).toNat : Int) = _
  rw [ofInt32, ofInt32, ← UInt32.toBitVec_and, UInt32.toNat_toBitVec, IntKind.wrap_u32]
  have := (x &&& y).toNat_lt
  omega
theorem xor32 (x y : UInt32) : bits .xor .u32 (x.toNat : Int) (y.toNat : Int) = ((x ^^^ y).toNat : Int) := by
  show IntKind.u32.wrap ((BitVec.ofInt 32 (x.toNat : Int) ^^^ BitVec.ofInt 32 (y.toNat : Int)).toNat : Int) = _
  rw [ofInt32, ofInt32, ← UInt32.toBitVec_xor, UInt32.toNat_toBitVec, IntKind.wrap_u32]
  have := (x ^^^ y).toNat_lt
  omega
theorem not32 (x : UInt32) : bits .xor .u32 (if IntKind.u32.signed = true then -1 else IntKind.u32.max) (x.toNat : Int) = ((~~~x).toNat : Int) := by
  have h : (if IntKind.u32.signed = true then -1 else IntKind.u32.max : Int) = ((4294967295 : UInt32).toNat : Int) := by decide
  rw [h, xor32]
  have e : (4294967295 : UInt32) ^^^ x = ~~~x := by
    apply UInt32.toBitVec_inj.1
    rw [UInt32.toBitVec_xor, UInt32.toBitVec_not]
    show BitVec.allOnes 32 ^^^ x.toBitVec = _
    rw [BitVec.allOnes_xor]
  rw [e]
theorem wadd32 (x y : UInt32) : IntKind.u32.wrap ((x.toNat : Int) + (y.toNat : Int)) = ((x + y).toNat : Int) := by
  rw [IntKind.wrap_u32, UInt32.toNat_add]; omega
theorem add32 (x y : UInt32) : ((x.toNat : Int) + (y.toNat : Int)) % 4294967296 = ((x + y).toNat : Int) := by
  rw [UInt32.toNat_add]; omega
theorem shl32 (x : UInt32) (c : UInt32) (h : c.toNat < 32) : (x.toNat : Int) * 2 ^ c.toNat % 4294967296 = ((x <<< c).toNat : Int) := by
  rw [UInt32.toNat_shiftLeft, Nat.mod_eq_of_lt h, Nat.shiftLeft_eq]
  simp
theorem shr32 (x : UInt32) (c : UInt32) (h : c.toNat < 32) : (x.toNat : Int) / 2 ^ c.toNat = ((x >>> c).toNat : Int) := by
  rw [UInt32.toNat_shiftRight, Nat.mod_eq_of_lt h, Nat.shiftRight_eq_div_pow]
  simp
theorem shl32_24 (x : UInt32) : (x.toNat : Int) * (16777216 : Int) % (4294967296 : Int) = ((x <<< 24).toNat : Int) := shl32 x 24 (by decide)
theorem shl32_16 (x : UInt32) : (x.toNat : Int) * (65536 : Int) % (4294967296 : Int) = ((x <<< 16).toNat : Int) := shl32 x 16 (by decide)
theorem shl32_8 (x : UInt32) : (x.toNat : Int) * (256 : Int) % (4294967296 : Int) = ((x <<< 8).toNat : Int) := shl32 x 8 (by decide)
theorem shr32_3 (x : UInt32) : (x.toNat : Int) / (8 : Int) = ((x >>> 3).toNat : Int) := shr32 x 3 (by decide)
theorem shr32_10 (x : UInt32) : (x.toNat : Int) / (1024 : Int) = ((x >>> 10).toNat : Int) := shr32 x 10 (by decide)
theorem shr32_24 (x : UInt32) : (x.toNat : Int) / (16777216 : Int) = ((x >>> 24).toNat : Int) := shr32 x 24 (by decide)
theorem shr32_16 (x : UInt32) : (x.toNat : Int) / (65536 : Int) = ((x >>> 16).toNat : Int) := shr32 x 16 (by decide)
theorem shr32_8 (x : UInt32) : (x.toNat : Int) / (256 : Int) = ((x >>> 8).toNat : Int) := shr32 x 8 (by decide)
theorem u8to32 (p : UInt8) : (p.toNat : Int) % 4294967296 = (p.toUInt32.toNat : Int) := by
  have := p.toNat_lt
  rw [UInt8.toNat_toUInt32]; omega
theorem u32to8 (p : UInt32) : (p.toNat : Int) % 256 = (p.toUInt8.toNat : Int) := by
  rw [UInt32.toNat_toUInt8]; omega
end Go.Proofs.Ytfdibjgmbdkbcaa
