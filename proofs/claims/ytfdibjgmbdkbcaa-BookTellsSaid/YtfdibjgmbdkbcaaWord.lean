/-
  THE WALKS of sha.word, math/bits.RotateLeft32, yearref1.turn, sha.rounds. Conditions: what is read is bytes.
-/
import Derived.Test.YtfdibjgmbdkbcaaProg
import Derived.Test.YtfdibjgmbdkbcaaBits
import Derived.WalkKit
import Derived.WalkSpells
import Derived.WalkLawsBesides
import Derived.Deep.QuietTactic
import Derived.BigQuiet
import Derived.Deep.MidRow
namespace Go.Proofs.Ytfdibjgmbdkbcaa
open Go.RowKit

set_option maxHeartbeats 400000 in
theorem word_at (w : World) (b off n c : Nat) (p q r s : UInt8) (h4 : 4 ≤ n) (hn : n ≤ 9223372036854775807)
    (c0 : w.cell? ⟨b, off, none⟩ = some (.int .u8 p.toNat)) (c1 : w.cell? ⟨b, off + 1, none⟩ = some (.int .u8 q.toNat))
    (c2 : w.cell? ⟨b, off + 2, none⟩ = some (.int .u8 r.toNat)) (c3 : w.cell? ⟨b, off + 3, none⟩ = some (.int .u8 s.toNat)) :
    Calls Try.prog 147 #[.slice (some ⟨b, off, none⟩) n c] w fun e w' => e = .returned (.int .u32 (Sha.word p q r s).toNat) ∧ ∃ n, w' = w.drewN n := by
  have i0 : (0 : Int) < (n : Int) := by omega
  have i1 : (1 : Int) < (n : Int) := by omega
  have i2 : (2 : Int) < (n : Int) := by omega
  have i3 : (3 : Int) < (n : Int) := by omega
  go_enter Try.func147, Try.ntmps147
  go_wp2
  go_quiet (fail)
  go_wp2
  go_ret
  refine ⟨?_, nq, rfl⟩
  show Ending.returned (Value.int IntKind.u32 _) = _
  rw [u8to32, u8to32, u8to32, u8to32, shl32_24, shl32_16, shl32_8, or32, or32, or32]
  rfl

set_option maxHeartbeats 400000 in
theorem rot_any (w : World) (x : UInt32) (k : Int) (s : Nat) (hk : bits .and .u64 (IntKind.u64.wrap k) 31 = (s : Int)) (h1 : 1 ≤ s) (h2 : s ≤ 31) :
    Calls Try.prog 148 #[.int .u32 x.toNat, .int .i64 k] w fun e w' => e = .returned (.int .u32 (Sha.rotr x (UInt32.ofNat (32 - s))).toNat) ∧ w' = w := by
  go_enter Try.func148, Try.ntmps148
  go_wp2
  go_ret
  refine ⟨?_, rfl⟩
  show Ending.returned (Value.int IntKind.u32 (bits BinOp.or IntKind.u32 ((x.toNat : Int) * 2 ^ s % 4294967296) ((x.toNat : Int) / 2 ^ (32 - s)))) = _
  have e1 : (UInt32.ofNat (32 - s)).toNat = 32 - s := by rw [UInt32.toNat_ofNat']; omega
  have e2 : (32 - UInt32.ofNat (32 - s)).toNat = s := by
    rw [UInt32.toNat_sub_of_le _ _ (by rw [UInt32.le_iff_toNat_le, e1]; show 32 - s ≤ 32; omega), e1]
    show 32 - (32 - s) = s
    omega
  have g1 := shl32 x (32 - UInt32.ofNat (32 - s)) (by rw [e2]; omega)
  have g2 := shr32 x (UInt32.ofNat (32 - s)) (by rw [e1]; omega)
  rw [e2] at g1
  rw [e1] at g2
  rw [g1, g2, or32]
  rfl

def uv (x : UInt32) : Value := .int .u32 (x.toNat : Int)
/-- the 64 constants, as cells -/
def kArr : Array Value := (Sha.Kc.map uv).toArray
theorem size_kArr : kArr.size = 64 := rfl
theorem kArr_one : kArr.all (·.oneCell') = true := by simp [kArr, uv, Value.oneCell', Sha.Kc]
set_option maxRecDepth 100000 in
theorem rounds_any (w : World) : Calls Try.prog 149 #[] w fun e w' => e = .returned (.agg kArr) ∧ Below w.heap.size w w' := by
  go_enter Try.func149, Try.ntmps149
  go_step
  go_step
  go_step
  go_step
  go_step
  go_step
  go_step
  iterate 4 go_step
  generalize hw1 : World.alloc w _ = w1
  obtain ⟨hg, hb1, _⟩ := alloc_named hw1
  clear hw1
  refine wpList_same rfl (.agg kArr) (by kernel_rfl) ?_
  refine wpList_store_mid rfl 192 (.tmp 0) (.tmp 1) rfl w.heap.size 0 kArr rfl rfl (there_whole hg _ (Nat.le_refl 64)) (by kernel_rfl) kArr_one ?_
  have hh := setCells_whole w1 w.heap.size _ 192 kArr.toList hg rfl
  have hch := setCells_ch w.heap.size kArr.toList 0 w1
  generalize World.setCells _ _ _ _ = w2 at hh hch ⊢
  have hb2 : Below w.heap.size w w2 := hb1.trans ⟨hch.os, hch.tape, hch.output, hch.size, fun k hk => hch.block k (Nat.lt_of_lt_of_le hk hb1.size) (by omega)⟩
  clear hch hg
  go_wp2_with fail
  exact bodyPost_ret (results_cell_row rfl _ _ w.heap.size 192 kArr (0, 0) _ rfl hh Try.underlying192 rfl (by kernel_rfl)) rfl ⟨rfl, hb2⟩

/-- how far a call turns right -/
def rotC (k : Int) : UInt32 := UInt32.ofNat (32 - (bits .and .u64 (IntKind.u64.wrap k) 31).toNat)
def rotOk (k : Int) : Bool := decide (1 ≤ bits .and .u64 (IntKind.u64.wrap k) 31) && decide (bits .and .u64 (IntKind.u64.wrap k) 31 ≤ 31)
theorem rotk_any (w : World) (x : UInt32) (k : Int) (h : rotOk k = true) :
    Calls Try.prog 148 #[.int .u32 x.toNat, .int .i64 k] w fun e w' => e = .returned (.int .u32 (Sha.rotr x (rotC k)).toNat) ∧ w' = w := by
  unfold rotOk at h
  rw [Bool.and_eq_true, decide_eq_true_eq, decide_eq_true_eq] at h
  refine rot_any w x k (bits .and .u64 (IntKind.u64.wrap k) 31).toNat (by omega) (by omega) (by omega)
end Go.Proofs.Ytfdibjgmbdkbcaa
