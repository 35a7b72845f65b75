/-
  THE WALK of yearref1.Primes at 64: the first 64 primes. No conditions.
-/
import Derived.Test.YtfdibjgmbdkbcaaZGb
namespace Go.Proofs.Ytfdibjgmbdkbcaa
open Go.RowKit

def okAll (p : Nat) (l : List Nat) : Bool := l.all fun q => p % q != 0
/-- what was found behind so many numbers from 2 on -/
def primesTo : Nat → List Nat
  | 0 => []
  | j + 1 => if okAll (2 + j) (primesTo j) then primesTo j ++ [2 + j] else primesTo j
def uv64 (n : Nat) : Value := .int .u64 (n : Int)
theorem uv64_one (l : List Nat) : ∀ u ∈ l.map uv64, u.oneCell' = true := by
  intro u hu
  obtain ⟨b, _, rfl⟩ := List.mem_map.1 hu
  rfl

theorem primesTo_ge (j : Nat) : ∀ q ∈ primesTo j, 2 ≤ q ∧ q < 2 + j := by
  induction j with
  | zero => intro q hq; cases hq
  | succ j ih =>
    intro q hq
    unfold primesTo at hq
    split at hq
    · rcases List.mem_append.1 hq with h | h
      · have := ih q h; omega
      · have : q = 2 + j := by simpa using h
        omega
    · have := ih q hq; omega
theorem primesTo_mono (j : Nat) : (primesTo j).length ≤ (primesTo (j + 1)).length := by
  conv => rhs; unfold primesTo
  split
  · simp
  · exact Nat.le_refl _
theorem primesTo_le (j k : Nat) (h : j ≤ k) : (primesTo j).length ≤ (primesTo k).length := by
  induction k with
  | zero => have : j = 0 := by omega
            subst this; exact Nat.le_refl _
  | succ k ih =>
    rcases Nat.lt_or_ge k j with h1 | h1
    · have : j = k + 1 := by omega
      subst this; exact Nat.le_refl _
    · exact Nat.le_trans (ih h1) (primesTo_mono k)
theorem primes_309 : (primesTo 309).length = 63 := by decide +kernel
theorem primes_310 : (primesTo 310).length = 64 := by decide +kernel

theorem info_u64 : (Try.prog.info? 118).map (fun i => (i.zero, i.size, i.bytes)) = some (some (.int .u64 0), 1, 8) := by kernel_rfl

set_option maxRecDepth 100000 in
set_option maxHeartbeats 1000000 in
theorem primes_any (w : World) :
    Calls Try.prog 81 #[.int .i64 64] w fun e w' => ∃ v, e = .returned v ∧ Own w' w.heap.size 118 1 v 64 ((primesTo 310).map uv64) ∧ Below w.heap.size w w' := by
  obtain ⟨i0, hi, hz0, hz1, hz2⟩ := info_parts info_u64
  go_enter Try.func81, Try.ntmps81
  go_wp2_with fail
  go_loopg [3, 4] 310 (fun k v p wr => ∃ j : Nat, j + k = 310 ∧ p = .int .u64 (2 + (j : Int)) ∧ Own wr w.heap.size 118 1 v (primesTo j).length ((primesTo j).map uv64) ∧ Below w.heap.size w wr)
  case atStart => exact ⟨0, rfl, rfl, Own.nil_ _ _ _ _, Below.refl _ _⟩
  case round =>
    obtain ⟨j, hj, rfl, hown, hx⟩ := hrel
    generalize gk = gk0 at *
    obtain ⟨A, c, hv, hac, hcm⟩ := hown.shape
    subst hv
    unfold maxLen at hcm
    by_cases hlt : j < 310
    · have hl63 : (primesTo j).length < 64 := by have := primesTo_le j 309 (by omega); rw [primes_309] at this; omega
      have hge := primesTo_ge j
      have hlB : decide (((primesTo j).length : Int) < 64) = true := by simp; omega
      have hnx : primesTo (j + 1) = if okAll (2 + j) (primesTo j) then primesTo j ++ [2 + j] else primesTo j := rfl
      generalize primesTo j = L at *
      have HGE := Lib.hid hge
      have HNX := Lib.hid hnx
      clear hge hnx
      go_wp2_with fail
      go_loopg [5, 16] L.length (fun k ok i wr' => ∃ i' : Nat, i' + k = L.length ∧ i = .int .i64 (i' : Int) ∧ ok = .bool (okAll (2 + j) (L.take i')) ∧ wr' = wr)
      case atStart => exact ⟨0, by omega, rfl, rfl, rfl⟩
      case round =>
        obtain ⟨i, hi', rfl, rfl, rfl⟩ := hrel
        by_cases hil : i < L.length
        · obtain ⟨b, off, cap, hvv, _, _, _, _, hc⟩ := hown.form (by omega)
          injection hvv with e1 e2 e3
          subst e1 e3
          have hci := hc i (uv64 L[i]) (by rw [List.getElem?_map, List.getElem?_eq_getElem hil]; rfl)
          unfold uv64 at hci
          have hq := HGE.out L[i] (List.getElem_mem hil)
          have hnext : okAll (2 + j) (L.take (i + 1)) = (okAll (2 + j) (L.take i) && ((2 + j) % L[i] != 0)) := by
            unfold okAll
            rw [List.take_succ_eq_append_getElem hil, List.all_append]
            simp
          generalize L[i] = q at *
          generalize okAll (2 + j) (L.take i) = okb at *
          have HNE := Lib.hid hnext
          have hiB : (i : Int) < (L.length : Int) := by omega
          have hq0 : ((q : Int) == 0) = false := by rw [beq_eq_false_iff_ne]; omega
          have hcast : ((2 + (j : Int)) % (q : Int) != 0) = ((2 + j) % q != 0) := by
            rw [Bool.eq_iff_iff, bne_iff_ne, bne_iff_ne]
            have : (2 + (j : Int)) % (q : Int) = (((2 + j) % q : Nat) : Int) := by simp
            omega
          have HCA := Lib.hid hcast
          clear hnext hc hcast
          cases okb with
          | true =>
            go_wp2_with fail
            go_roundg (gk - 1)
            case measure => omega
            case rel =>
              refine ⟨i + 1, by omega, by go_num, ?_, rfl⟩
              rw [HNE.out, Bool.true_and, ← HCA.out]
          | false =>
            go_wp2_with fail
            go_roundg (gk - 1)
            case measure => omega
            case rel =>
              refine ⟨i + 1, by omega, by go_num, ?_, rfl⟩
              rw [HNE.out, Bool.false_and]
        · have hiB : decide ((i : Int) < (L.length : Int)) = false := by simp; omega
          rw [List.take_of_length_le (by omega)]
          have hnx := HNX.out
          cases hok : okAll (2 + j) L with
          | true =>
            rw [hok, if_pos rfl] at hnx
            have hsrc := SlAt.new wr 118 [.int .u64 (2 + (j : Int))] 1 rfl (by decide)
            have hownA := hown.alloc (.cells #[.int .u64 (2 + (j : Int))] 118)
            have hxA := hx.alloc hx.size (.cells #[.int .u64 (2 + (j : Int))] 118)
            have HNX2 := Lib.hid hnx
            clear hnx hok HNX
            go_wp2_with (at_builtin
                         refine wpList_append_Own _ rfl (.tmp 29) (.tmp 31) 115 rfl w.heap.size 118 i0 _ 1 8 Try.underlying115 hi hz0 hz1 hz2 rfl (by omega) _ _ _ rfl hownA _ _ _ _ rfl hsrc (by simp [Value.oneCell']) (by simp only [maxLen]; omega) (by omega) (by simp; have := hx.size; omega) ?_
                         intro v1 w1 hown1 hgr1 hat1
                         have hx2 : Below w.heap.size w w1 := hxA.grown hgr1 hxA.size (fun k hk => (hownA.lt k hk).1))
            go_roundg (gk0 - 1)
            case measure => omega
            case rel =>
              refine ⟨j + 1, by omega, congrArg (Value.int .u64) (by omega), ?_, hx2⟩
              rw [HNX2.out, List.map_append, List.length_append]
              exact hown1
          | false =>
            rw [hok] at hnx
            have HNX2 := Lib.hid hnx
            clear hnx hok HNX
            go_wp2_with fail
            go_roundg (gk0 - 1)
            case measure => omega
            case rel =>
              refine ⟨j + 1, by omega, congrArg (Value.int .u64) (by omega), ?_, hx⟩
              rw [HNX2.out]
              exact hown
    · have hj310 : j = 310 := by omega
      subst hj310
      rw [primes_310] at hown hac ⊢
      go_wp2_with fail
      go_ret
      exact ⟨_, rfl, hown, hx⟩
end Go.Proofs.Ytfdibjgmbdkbcaa
