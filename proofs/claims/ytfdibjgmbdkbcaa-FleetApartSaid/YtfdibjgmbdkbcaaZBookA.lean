/-
  THE WALKS of book.Wrong, put. Conditions: the numbers are small.
-/
import Derived.Test.YtfdibjgmbdkbcaaZGc
import Derived.Test.YtfdibjgmbdkbcaaZBook
namespace Go.Proofs.Ytfdibjgmbdkbcaa
open Go.RowKit Go.Lib

/-- a record by value -/
def recV (r : Rec) (v : Value) : Value := .agg #[.int .i64 r.sh, .int .i64 r.fr, .int .i64 r.to, .int .i64 r.sz, v]

set_option maxRecDepth 100000 in
set_option maxHeartbeats 1000000 in
theorem wrongR_any (w : World) (sh fr tt sz : Int) (A : Option Addr) (c : Nat) (root : Bs) :
    Calls Try.prog 47 #[.agg #[.int .i64 sh, .int .i64 fr, .int .i64 tt, .int .i64 sz, .slice A root.length c]] w fun e w' => e = .returned (.int .i64 (Bk.wrongR ⟨sh, fr, tt, sz, root⟩ : Nat)) ∧ Below w.heap.size w w' := by
  by_cases h0 : sh < 0
  · skip
    have HW : Hid (Bk.wrongR ⟨sh, fr, tt, sz, root⟩ = 3) := Lib.hid (by unfold Bk.wrongR; simp only []; rw [if_pos (by omega)])
    go_enter Try.func47, Try.ntmps47
    go_wp2_with fail
    go_ret
    exact ⟨by rw [HW.out]; rfl, (Below.refl _ _).alloc (Nat.le_refl _) _⟩
  · have b0 : decide (sh < 0) = false := decide_eq_false h0
    by_cases h1 : 8 ≤ sh
    · skip
      have HW : Hid (Bk.wrongR ⟨sh, fr, tt, sz, root⟩ = 3) := Lib.hid (by unfold Bk.wrongR; simp only []; rw [if_pos (by omega)])
      go_enter Try.func47, Try.ntmps47
      go_wp2_with fail
      go_ret
      exact ⟨by rw [HW.out]; rfl, (Below.refl _ _).alloc (Nat.le_refl _) _⟩
    · have b1 : decide (8 ≤ sh) = false := decide_eq_false h1
      by_cases h2 : fr < 0
      · skip
        have HW : Hid (Bk.wrongR ⟨sh, fr, tt, sz, root⟩ = 3) := Lib.hid (by unfold Bk.wrongR; simp only []; rw [if_pos (by omega)])
        go_enter Try.func47, Try.ntmps47
        go_wp2_with fail
        go_ret
        exact ⟨by rw [HW.out]; rfl, (Below.refl _ _).alloc (Nat.le_refl _) _⟩
      · have b2 : decide (fr < 0) = false := decide_eq_false h2
        by_cases h3 : tt ≤ fr
        · skip
          have HW : Hid (Bk.wrongR ⟨sh, fr, tt, sz, root⟩ = 3) := Lib.hid (by unfold Bk.wrongR; simp only []; rw [if_pos (by omega)])
          go_enter Try.func47, Try.ntmps47
          go_wp2_with fail
          go_ret
          exact ⟨by rw [HW.out]; rfl, (Below.refl _ _).alloc (Nat.le_refl _) _⟩
        · have b3 : decide (tt ≤ fr) = false := decide_eq_false h3
          by_cases h4 : 1000000 < tt
          · skip
            have HW : Hid (Bk.wrongR ⟨sh, fr, tt, sz, root⟩ = 3) := Lib.hid (by unfold Bk.wrongR; simp only []; rw [if_pos (by omega)])
            go_enter Try.func47, Try.ntmps47
            go_wp2_with fail
            go_ret
            exact ⟨by rw [HW.out]; rfl, (Below.refl _ _).alloc (Nat.le_refl _) _⟩
          · have b4 : decide (1000000 < tt) = false := decide_eq_false h4
            by_cases h5 : sz < 0
            · skip
              have HW : Hid (Bk.wrongR ⟨sh, fr, tt, sz, root⟩ = 3) := Lib.hid (by unfold Bk.wrongR; simp only []; rw [if_pos (by omega)])
              go_enter Try.func47, Try.ntmps47
              go_wp2_with fail
              go_ret
              exact ⟨by rw [HW.out]; rfl, (Below.refl _ _).alloc (Nat.le_refl _) _⟩
            · have b5 : decide (sz < 0) = false := decide_eq_false h5
              by_cases h6 : 100 < sz
              · skip
                have HW : Hid (Bk.wrongR ⟨sh, fr, tt, sz, root⟩ = 3) := Lib.hid (by unfold Bk.wrongR; simp only []; rw [if_pos (by omega)])
                go_enter Try.func47, Try.ntmps47
                go_wp2_with fail
                go_ret
                exact ⟨by rw [HW.out]; rfl, (Below.refl _ _).alloc (Nat.le_refl _) _⟩
              · have b6 : decide (100 < sz) = false := decide_eq_false h6
                by_cases h7 : root.length = 32
                · have b7 : ((root.length : Int) != 32) = false := by rw [bne_eq_false_iff_eq]; omega
                  have h7' : root.length ≤ 32 ∧ 32 ≤ root.length := by omega
                  clear h7
                  have HW : Hid (Bk.wrongR ⟨sh, fr, tt, sz, root⟩ = 0) := Lib.hid (by unfold Bk.wrongR; simp only []; rw [if_neg (by omega), if_neg (by omega)])
                  go_enter Try.func47, Try.ntmps47
                  go_wp2_with fail
                  go_ret
                  exact ⟨by rw [HW.out]; rfl, (Below.refl _ _).alloc (Nat.le_refl _) _⟩
                · have b7 : ((root.length : Int) != 32) = true := by rw [bne_iff_ne]; omega
                  have HW : Hid (Bk.wrongR ⟨sh, fr, tt, sz, root⟩ = 2) := Lib.hid (by unfold Bk.wrongR; simp only []; rw [if_neg (by omega), if_pos (by omega)])
                  go_enter Try.func47, Try.ntmps47
                  go_wp2_with fail
                  go_ret
                  exact ⟨by rw [HW.out]; rfl, (Below.refl _ _).alloc (Nat.le_refl _) _⟩

/-- append(v, c), of one byte -/
theorem append_u8_prep {w : World} {B : Nat} {v : Value} {l : Bs} (c : UInt8) (hown : OwnB w B v l) :
    Own (w.alloc (.cells #[bv c] 5)) B 5 1 v l.length (l.map bv) ∧ SlAt (w.alloc (.cells #[bv c] 5)) (fun k => k = w.heap.size) 1 (.slice (some ⟨w.heap.size, 0, none⟩) 1 1) 1 [bv c] :=
  ⟨hown.alloc _, SlAt.new w 5 [bv c] 1 rfl (by decide)⟩
theorem be_at (n : Nat) : ∀ k j, j < k → (Bk.be k n).take (j + 1) = (Bk.be k n).take j ++ [UInt8.ofNat (n / 256 ^ (k - 1 - j))]
  | 0, j, h => by omega
  | k + 1, 0, _ => by simp [Bk.be]
  | k + 1, j + 1, h => by
    have := be_at n k j (by omega)
    simp only [Bk.be, List.take_succ_cons, List.cons_append, this]
    rw [show k + 1 - 1 - (j + 1) = k - 1 - j by omega]
theorem be_byte (n k : Nat) : ((n : Int) / 2 ^ (8 * k) % 256) = ((UInt8.ofNat (n / 256 ^ k)).toNat : Int) := by
  rw [UInt8.toNat_ofNat', show (256 : Nat) ^ k = 2 ^ (8 * k) by rw [Nat.pow_mul]]
  simp

set_option maxRecDepth 100000 in
set_option maxHeartbeats 1000000 in
theorem put_any (w : World) (B : Nat) (v : Value) (l : Bs) (n k : Nat) (hv : OwnB w B v l) (hB : B ≤ w.heap.size) (_hn : n ≤ 1000000) (hk : k ≤ 4) (hl : l.length ≤ 1000) :
    Calls Try.prog 104 #[v, .int .i64 (n : Int), .int .i64 (k : Int)] w fun e w' => ∃ v', e = .returned v' ∧ OwnB w' B v' (l ++ Bk.be k n) ∧ Below B w w' := by
  obtain ⟨i0, hi, hz0, hz1, hz2⟩ := info_parts info_u8
  obtain ⟨A1, c1, hv1, hac1, hcm1⟩ := Own.shape hv
  subst hv1
  go_enter Try.func104, Try.ntmps104
  go_wp2_with fail
  go_loopg [0, 7] k (fun f v i wr => ∃ j : Nat, j + f = k ∧ ((j < k ∧ ∃ kk : Nat, kk + j + 1 = k ∧ i = .int .i64 (kk : Int)) ∨ (j = k ∧ i = .int .i64 (-1))) ∧ OwnB wr B v (l ++ (Bk.be k n).take j) ∧ Below B w wr)
  case atStart =>
    refine ⟨0, by omega, ?_, by simpa using hv, Below.refl _ _⟩
    rcases Nat.eq_zero_or_pos k with h | h
    · subst h; exact .inr ⟨rfl, rfl⟩
    · exact .inl ⟨h, k - 1, by omega, by congr 1; omega⟩
  case round =>
    obtain ⟨j, hj, hi', hown, hx⟩ := hrel
    obtain ⟨A2, c2, hv2, hac2, hcm2⟩ := Own.shape hown
    subst hv2
    rcases hi' with ⟨hjk, kk, hkk, rfl⟩ | ⟨hjk, rfl⟩
    · have hll : (l ++ (Bk.be k n).take j).length = l.length + j := by rw [List.length_append, List.length_take, Bk.length_be]; omega
      have hnx : l ++ (Bk.be k n).take (j + 1) = (l ++ (Bk.be k n).take j) ++ [UInt8.ofNat (n / 256 ^ kk)] := by
        rw [be_at n k j hjk, List.append_assoc, show k - 1 - j = kk by omega]
      have hby := be_byte n kk
      generalize l ++ (Bk.be k n).take j = cur at *
      generalize UInt8.ofNat (n / 256 ^ kk) = x at *
      obtain ⟨hownA, hsrc⟩ := append_u8_prep x hown
      have hxA := hx.alloc (Nat.le_trans hB hx.size) (.cells #[bv x] 5)
      have hb0 : bv x = .int .u8 (x.toNat : Int) := rfl
      rw [hb0, ← hby] at hownA hsrc hxA
      have HN := Lib.hid hnx
      have HL := Lib.hid hll
      have HB := Lib.hid hby
      have hlc : cur.length ≤ 2000 := by omega
      clear hnx hll hby hb0
      go_wp2_with (at_builtin
                   refine wpList_append_Own _ rfl (.tmp 14) (.tmp 20) 22 rfl B 5 i0 _ 1 1 Try.underlying22 hi hz0 hz1 hz2 rfl (by omega) _ _ _ rfl hownA _ _ _ _ rfl hsrc (by simp [Value.oneCell']) (by simp only [maxLen]; omega) (by omega) (by simp; have := hx.size; omega) ?_
                   intro v1 w1 hown1 hgr1 hat1
                   have hx2 : Below B w w1 := hxA.grown hgr1 (Nat.le_trans hB hxA.size) (fun k hk => (hownA.lt k hk).1))
      go_roundg (gk - 1)
      case measure => omega
      case rel =>
        refine ⟨j + 1, by omega, ?_, ?_, hx2⟩
        · rcases Nat.eq_zero_or_pos kk with h | h
          · subst h; exact .inr ⟨by omega, rfl⟩
          · exact .inl ⟨by omega, kk - 1, by omega, by congr 1; omega⟩
        · rw [HN.out]
          unfold OwnB
          rw [List.length_append, List.map_append]
          rw [HB.out] at hown1
          exact hown1
    · have hall : (Bk.be k n).take j = Bk.be k n := List.take_of_length_le (by rw [Bk.length_be]; omega)
      rw [hall] at hown hac2
      have HA := Lib.hid hall
      clear hall
      go_wp2_with fail
      go_ret
      exact ⟨_, rfl, by rw [HA.out] at *; exact hown, hx⟩
end Go.Proofs.Ytfdibjgmbdkbcaa
