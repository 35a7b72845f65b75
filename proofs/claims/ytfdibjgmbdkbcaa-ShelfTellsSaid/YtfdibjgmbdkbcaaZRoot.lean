/-
  THE WALKS of math/bits.Mul64 and Add64, yearref1.turn, above, Root. Conditions: the numbers fit their kinds.
-/
import Derived.Lib.Mul64
import Derived.Laws.Bits64b
import Derived.Laws.Externs
import Derived.Deep.LoopGhost
import Derived.Deep.DeepCutAuto
import Derived.Test.YtfdibjgmbdkbcaaZGb
namespace Go.Proofs.Ytfdibjgmbdkbcaa
open Go.RowKit Go.Lib

namespace Mul64
theorem maskN (a : Nat) (ha : a < 18446744073709551616) : bits .and .u64 (a : Int) 4294967295 = ((a % 4294967296 : Nat) : Int) := by
  have h := bits_and_u64_nat a 4294967295 ha (by omega)
  have e : a &&& 4294967295 = a % 4294967296 := Nat.and_two_pow_sub_one_eq_mod a 32
  rw [e] at h
  exact h
theorem divN (a : Nat) : (a : Int) / 4294967296 = ((a / 4294967296 : Nat) : Int) := by omega
theorem mulN (a b : Nat) : (a : Int) * (b : Int) = ((a * b : Nat) : Int) := (Int.natCast_mul a b).symm
theorem addN (a b : Nat) : (a : Int) + (b : Int) = ((a + b : Nat) : Int) := (Int.natCast_add a b).symm
theorem wrapN (a : Nat) (ha : a < 18446744073709551616) : IntKind.u64.wrap (a : Int) = (a : Int) := by rw [IntKind.wrap_u64]; omega
theorem wrapM (a : Nat) : IntKind.u64.wrap (a : Int) = ((a % 18446744073709551616 : Nat) : Int) := by rw [IntKind.wrap_u64]; omega
end Mul64

set_option maxHeartbeats 1000000 in
theorem mul64_any (x y : Nat) (hx : x < 18446744073709551616) (hy : y < 18446744073709551616) (w : World) :
    Calls Try.prog 139 #[.int .u64 x, .int .u64 y] w fun e w' => e = .returned (.tuple #[.int .u64 ((x * y / 18446744073709551616 : Nat) : Int), .int .u64 ((x * y % 18446744073709551616 : Nat) : Int)]) ∧ w' = w := by
  obtain ⟨bd, bt, bw, hhi⟩ := Lib.mul64_hi x y hx hy
  have ba := Lib.half_mul_le (a := x / 4294967296) (b := y / 4294967296) (by omega) (by omega)
  have bb := Lib.half_mul_le (a := x / 4294967296) (b := y % 4294967296) (by omega) (by omega)
  have bc := Lib.half_mul_le (a := x % 4294967296) (b := y / 4294967296) (by omega) (by omega)
  have ba' : x / 4294967296 * (y / 4294967296) < 18446744073709551616 := by omega
  have bb' : x / 4294967296 * (y % 4294967296) < 18446744073709551616 := by omega
  have bc' : x % 4294967296 * (y / 4294967296) < 18446744073709551616 := by omega
  have bh1 : x / 4294967296 * (y / 4294967296) + (x / 4294967296 * (y % 4294967296) + x % 4294967296 * (y % 4294967296) / 4294967296) / 4294967296 < 18446744073709551616 := by omega
  have bh : x / 4294967296 * (y / 4294967296) + (x / 4294967296 * (y % 4294967296) + x % 4294967296 * (y % 4294967296) / 4294967296) / 4294967296 + ((x / 4294967296 * (y % 4294967296) + x % 4294967296 * (y % 4294967296) / 4294967296) % 4294967296 + x % 4294967296 * (y / 4294967296)) / 4294967296 < 18446744073709551616 := by omega
  go_enter Try.func139, Try.ntmps139
  go_wp2
  simp only [Mul64.maskN x hx, Mul64.maskN y hy, Mul64.divN, Mul64.mulN, Mul64.addN, Mul64.wrapN _ bd, Mul64.wrapN _ bb', Mul64.wrapN _ bt, Mul64.maskN _ bt, Mul64.wrapN _ bc', Mul64.wrapN _ bw, Mul64.wrapN _ ba', Mul64.wrapN _ bh1, Mul64.wrapN _ bh, Mul64.wrapM (x * y)]
  rw [hhi]
  go_ret2
  exact ⟨rfl, rfl⟩

theorem add64_any (x y c : Nat) (hc : c ≤ 1) (w : World) :
    (callFunc 140 #[.int .u64 x, .int .u64 y, .int .u64 c]).run Try.prog w =
      .ok (.value (.tuple #[.int .u64 (((x + y + c) % 18446744073709551616 : Nat) : Int), .int .u64 (((x + y + c) / 18446744073709551616 : Nat) : Int)])) w := by
  rw [run_callFunc_extern Try.func140 (by kernel_rfl) (by kernel_rfl) (by kernel_rfl) (e := add64Entry) (by kernel_rfl), run_add64 x y c (by omega) (by omega) (by omega) (by omega)]
  simp only [Result.andThen]
  congr 5 <;> omega

set_option maxHeartbeats 400000 in
theorem turn_any (w : World) (x : UInt32) (s : Nat) (h1 : 1 ≤ s) (h2 : s ≤ 31) :
    Calls Try.prog 83 #[.int .u32 x.toNat, .int .i64 (s : Int)] w fun e w' => e = .returned (.int .u32 (Sha.rotr x (UInt32.ofNat s)).toNat) ∧ ∃ n, w' = w.drewN n := by
  have h0 : (0 : Int) ≤ (s : Int) := by omega
  have h3 : (0 : Int) ≤ 32 - (s : Int) := by omega
  have w3 : IntKind.i64.wrap (32 - (s : Int)) = 32 - (s : Int) := IntWalk.i64_in _ (by omega)
  go_enter Try.func83, Try.ntmps83
  go_wp2_with fail
  go_quiet (fail)
  go_wp2_with fail
  go_ret
  refine ⟨?_, nq, rfl⟩
  show Ending.returned (Value.int IntKind.u32 (bits BinOp.or IntKind.u32 ((x.toNat : Int) / 2 ^ s) ((x.toNat : Int) * 2 ^ (32 - s) % 4294967296))) = _
  have e1 : (UInt32.ofNat s).toNat = s := by rw [UInt32.toNat_ofNat']; omega
  have e2 : (32 - UInt32.ofNat s).toNat = 32 - s := by
    rw [UInt32.toNat_sub_of_le _ _ (by rw [UInt32.le_iff_toNat_le, e1]; show s ≤ 32; omega), e1]
    rfl
  have g1 := shl32 x (32 - UInt32.ofNat s) (by rw [e2]; omega)
  have g2 := shr32 x (UInt32.ofNat s) (by rw [e1]; omega)
  rw [e2] at g1
  rw [e1] at g2
  rw [g1, g2, or32, UInt32.or_comm]
  rfl

/-- what above tells -/
def aboveS (x p : Nat) (two : Bool) : Bool :=
  let h := x * x / 18446744073709551616
  let l := x * x % 18446744073709551616
  if two then decide (p < h) || (h == p && decide (0 < l))
  else
    let a := l * x / 18446744073709551616
    let b := l * x % 18446744073709551616
    let c := h * x / 18446744073709551616
    let d := h * x % 18446744073709551616
    let mid := (a + d) % 18446744073709551616
    let top := (c + (a + d) / 18446744073709551616) % 18446744073709551616
    let wt := p / 4294967296
    let wm := p * 4294967296 % 18446744073709551616
    decide (wt < top) || (top == wt && (decide (wm < mid) || (mid == wm && decide (0 < b))))

theorem add64_zero (x y : Nat) (w : World) :
    (callFunc 140 #[.int .u64 x, .int .u64 y, .int .u64 0]).run Try.prog w =
      .ok (.value (.tuple #[.int .u64 (((x + y) % 18446744073709551616 : Nat) : Int), .int .u64 (((x + y) / 18446744073709551616 : Nat) : Int)])) w :=
  add64_any x y 0 (by omega) w

set_option maxHeartbeats 1000000 in
theorem above_two (x p : Nat) (hx : x < 18446744073709551616) (w : World) :
    Calls Try.prog 124 #[.int .u64 x, .int .u64 p, .bool true] w fun e w' => e = .returned (.bool (aboveS x p true)) ∧ w' = w := by
  have hm := mul64_any x x hx hx w
  have hres : aboveS x p true = (decide (p < x * x / 18446744073709551616) || (x * x / 18446744073709551616 == p && decide (0 < x * x % 18446744073709551616))) := rfl
  generalize x * x / 18446744073709551616 = h at *
  generalize x * x % 18446744073709551616 = l at *
  have HM := Lib.hid hm
  have HR := Lib.hid hres
  clear hm hres
  rcases Nat.lt_trichotomy p h with hc | hc | hc
  · go_enter Try.func124, Try.ntmps124
    go_wp2_with fail
    refine HM.out.mono ?_
    rintro e w' ⟨rfl, rfl⟩
    go_wp2_with fail
    go_ret
    exact ⟨by rw [HR.out]; simp [hc], rfl⟩
  · subst hc
    have hB : decide ((p : Int) < (p : Int)) = false := by simp
    have hE : ((p : Int) == (p : Int)) = true := by simp
    by_cases hl : 0 < l
    · go_enter Try.func124, Try.ntmps124
      go_wp2_with fail
      refine HM.out.mono ?_
      rintro e w' ⟨rfl, rfl⟩
      go_wp2_with fail
      go_ret
      exact ⟨by rw [HR.out]; simp [hl], rfl⟩
    · have hl0 : decide ((0 : Int) < (l : Int)) = false := by simp; omega
      go_enter Try.func124, Try.ntmps124
      go_wp2_with fail
      refine HM.out.mono ?_
      rintro e w' ⟨rfl, rfl⟩
      go_wp2_with fail
      go_ret
      exact ⟨by rw [HR.out]; simp [hl], rfl⟩
  · have hB : decide (p < h) = false := by simp; omega
    have hE : ((h : Int) == (p : Int)) = false := nat_beq_not (by omega)
    go_enter Try.func124, Try.ntmps124
    go_wp2_with fail
    refine HM.out.mono ?_
    rintro e w' ⟨rfl, rfl⟩
    go_wp2_with fail
    go_ret
    have hne : (h == p) = false := by simp; omega
    exact ⟨by rw [HR.out, hB, hne]; simp, rfl⟩

def aboveT (h l x p : Nat) : Bool :=
  let a := l * x / 18446744073709551616
  let b := l * x % 18446744073709551616
  let c := h * x / 18446744073709551616
  let d := h * x % 18446744073709551616
  let mid := (a + d) % 18446744073709551616
  let top := (c + (a + d) / 18446744073709551616) % 18446744073709551616
  let wt := p / 4294967296
  let wm := p * 4294967296 % 18446744073709551616
  decide (wt < top) || (top == wt && (decide (wm < mid) || (mid == wm && decide (0 < b))))

set_option maxRecDepth 100000 in
set_option maxHeartbeats 2000000 in
theorem above_three (x p : Nat) (hx : x < 2199023255552) (hp : p < 4294967296) (w : World) :
    Calls Try.prog 124 #[.int .u64 x, .int .u64 p, .bool false] w fun e w' => e = .returned (.bool (aboveS x p false)) ∧ w' = w := by
  have hm := mul64_any x x (by omega) (by omega) w
  have hb1 : x * x / 18446744073709551616 < 2199023255552 := by
    have : x * x < 2199023255552 * 2199023255552 := Nat.mul_lt_mul'' hx hx
    omega
  have hb2 : x * x % 18446744073709551616 < 18446744073709551616 := Nat.mod_lt _ (by decide)
  have hp0 : p / 4294967296 = 0 := by omega
  have hpm : p * 4294967296 % 18446744073709551616 = p * 4294967296 := by omega
  have hres : aboveS x p false = aboveT (x * x / 18446744073709551616) (x * x % 18446744073709551616) x p := rfl
  generalize x * x / 18446744073709551616 = h at *
  generalize x * x % 18446744073709551616 = l at *
  have hm2 := mul64_any l x hb2 (by omega) w
  have hres2 : aboveT h l x p = (decide (p / 4294967296 < (h * x / 18446744073709551616 + (l * x / 18446744073709551616 + h * x % 18446744073709551616) / 18446744073709551616) % 18446744073709551616) ||
      ((h * x / 18446744073709551616 + (l * x / 18446744073709551616 + h * x % 18446744073709551616) / 18446744073709551616) % 18446744073709551616 == p / 4294967296 &&
        (decide (p * 4294967296 % 18446744073709551616 < (l * x / 18446744073709551616 + h * x % 18446744073709551616) % 18446744073709551616) ||
          ((l * x / 18446744073709551616 + h * x % 18446744073709551616) % 18446744073709551616 == p * 4294967296 % 18446744073709551616 && decide (0 < l * x % 18446744073709551616))))) := rfl
  rw [hp0, hpm] at hres2
  have hm3 := mul64_any h x (by omega) (by omega) w
  have hb3 : h * x / 18446744073709551616 < 2199023255552 := by
    have : h * x < 2199023255552 * 2199023255552 := Nat.mul_lt_mul'' hb1 hx
    omega
  have hb4 : h * x % 18446744073709551616 < 18446744073709551616 := Nat.mod_lt _ (by decide)
  have hb5 : l * x / 18446744073709551616 < 18446744073709551616 := by
    have : l * x < 18446744073709551616 * 18446744073709551616 := Nat.mul_lt_mul'' hb2 (by omega)
    exact Nat.div_lt_of_lt_mul this
  generalize h * x / 18446744073709551616 = c at *
  generalize h * x % 18446744073709551616 = d at *
  generalize l * x / 18446744073709551616 = a at *
  generalize l * x % 18446744073709551616 = b at *
  have hadd := add64_zero a d w
  have hb6 : (a + d) / 18446744073709551616 < 2 := by omega
  generalize (a + d) / 18446744073709551616 = cy at *
  generalize (a + d) % 18446744073709551616 = mid at *
  have HM := Lib.hid hm
  have hcc : (c + cy) % 18446744073709551616 = c + cy := by omega
  rw [hcc] at hres2
  rw [hres2] at hres
  have HRES := Lib.hid hres
  clear hres hres2 hcc hp0 hpm
  have hpI : (p : Int) / 4294967296 = 0 := by omega
  have HM2 := Lib.hid hm2
  have HM3 := Lib.hid hm3
  clear hm hm2 hm3
  go_enter Try.func124, Try.ntmps124
  go_wp2_with fail
  refine HM.out.mono ?_
  rintro e w' ⟨rfl, rfl⟩
  go_wp2_with fail
  refine HM2.out.mono ?_
  rintro e w' ⟨rfl, rfl⟩
  go_wp2_with fail
  refine HM3.out.mono ?_
  rintro e w' ⟨rfl, rfl⟩
  go_upto_region 9 with (fail)
  by_cases hA : 0 < c + cy
  · go_wp2_with fail
    go_ret
    exact ⟨by rw [HRES.out]; simp [hA], rfl⟩
  · have hc0 : c = 0 := by omega
    have hy0 : cy = 0 := by omega
    subst hc0 hy0
    clear hA
    rcases Nat.lt_trichotomy (p * 4294967296) mid with hc | hc | hc
    · have hlt : (p : Int) * 4294967296 < (mid : Int) := by omega
      go_wp2_with fail
      go_ret
      exact ⟨by rw [HRES.out]; simp [hc], rfl⟩
    · have hE : ((mid : Int) == (p : Int) * 4294967296) = true := by rw [beq_iff_eq]; omega
      have hB : decide ((p : Int) * 4294967296 < (mid : Int)) = false := by simp; omega
      by_cases hl : 0 < b
      · go_wp2_with fail
        go_ret
        exact ⟨by rw [HRES.out]; simp [hc, hl], rfl⟩
      · have hl0 : decide ((0 : Int) < (b : Int)) = false := by simp; omega
        go_wp2_with fail
        go_ret
        exact ⟨by rw [HRES.out]; simp [hc, hl], rfl⟩
    · have hE : ((mid : Int) == (p : Int) * 4294967296) = false := by rw [beq_eq_false_iff_ne]; omega
      have hB : decide ((p : Int) * 4294967296 < (mid : Int)) = false := by simp; omega
      go_wp2_with fail
      go_ret
      have h1 : ¬ p * 4294967296 < mid := by omega
      have h2 : ¬ mid = p * 4294967296 := by omega
      exact ⟨by rw [HRES.out]; simp [h1, h2], rfl⟩

/-- the root behind so many rounds -/
def rootTo (p : Nat) (two : Bool) : Nat → Nat
  | 0 => 0
  | j + 1 => if aboveS (rootTo p two j ||| 2 ^ (40 - j)) p two then rootTo p two j else rootTo p two j ||| 2 ^ (40 - j)
def rootS (p : Nat) (two : Bool) : UInt32 := UInt32.ofNat (rootTo p two 41)
theorem rootTo_lt (p : Nat) (two : Bool) (j : Nat) : rootTo p two j < 2199023255552 := by
  induction j with
  | zero => exact (by decide : 0 < 2199023255552)
  | succ j ih =>
    unfold rootTo
    split
    · exact ih
    · exact Nat.or_lt_two_pow (n := 41) ih (Nat.pow_lt_pow_right (by decide) (by omega))

set_option maxHeartbeats 1000000 in
theorem root_any (p : Nat) (two : Bool) (hp : p < 4294967296) (w : World) :
    Calls Try.prog 82 #[.int .u64 p, .bool two] w fun e w' => e = .returned (.int .u32 (rootS p two).toNat) ∧ w' = w := by
  have hab : ∀ y : Nat, y < 2199023255552 → Calls Try.prog 124 #[.int .u64 y, .int .u64 p, .bool two] w fun e w' => e = .returned (.bool (aboveS y p two)) ∧ w' = w := by
    intro y hy
    cases two with
    | true => exact above_two y p (by omega) w
    | false => exact above_three y p hy hp w
  have HAB := Lib.hid hab
  clear hab
  go_enter Try.func82, Try.ntmps82
  go_wp2_with fail
  go_loopg [5, 6] 41 (fun k x i wr => ∃ j : Nat, j + k = 41 ∧ i = .int .i64 (40 - (j : Int)) ∧ x = .int .u64 (rootTo p two j : Nat) ∧ wr = w)
  case atStart => exact ⟨0, rfl, rfl, rfl, rfl⟩
  case round =>
    obtain ⟨j, hj, rfl, rfl, rfl⟩ := hrel
    by_cases hlt : j < 41
    · have hge : (0 : Int) ≤ 40 - (j : Int) := by omega
      have hrt := rootTo_lt p two j
      have hpw : 2 ^ (40 - j) < 2199023255552 := Nat.pow_lt_pow_right (n := 41) (by decide) (by omega)
      have hor : bits BinOp.or IntKind.u64 ((rootTo p two j : Nat) : Int) (IntKind.u64.wrap (2 ^ (40 - j))) = ((rootTo p two j ||| 2 ^ (40 - j) : Nat) : Int) := by
        have e : IntKind.u64.wrap ((2 : Int) ^ (40 - j)) = ((2 ^ (40 - j) : Nat) : Int) := by
          have e0 : ((2 ^ (40 - j) : Nat) : Int) = (2 : Int) ^ (40 - j) := by simp
          rw [← e0, IntKind.wrap_u64]
          clear e0
          generalize (2 ^ (40 - j) : Nat) = q at *
          omega
        rw [e]
        exact bits_or_u64_nat _ _ (by omega) (by omega)
      have hyl : rootTo p two j ||| 2 ^ (40 - j) < 2199023255552 := Nat.or_lt_two_pow (n := 41) hrt hpw
      have hnx : rootTo p two (j + 1) = if aboveS (rootTo p two j ||| 2 ^ (40 - j)) p two then rootTo p two j else rootTo p two j ||| 2 ^ (40 - j) := rfl
      generalize rootTo p two j ||| 2 ^ (40 - j) = y at *
      generalize rootTo p two j = x at *
      have HNX := Lib.hid hnx
      clear hnx hpw
      go_wp2_with fail
      refine (HAB.out y hyl).mono ?_
      rintro e w' ⟨rfl, rfl⟩
      cases hay : aboveS y p two with
      | true =>
        have h := HNX.out
        rw [hay, if_pos rfl] at h
        have HN2 := Lib.hid h
        clear h HNX hay
        go_wp2_with fail
        go_roundg (gk - 1)
        case measure => omega
        case rel => exact ⟨j + 1, by omega, by go_num, by rw [HN2.out], rfl⟩
      | false =>
        have h := HNX.out
        rw [hay] at h
        have HN2 := Lib.hid h
        clear h HNX hay
        go_wp2_with fail
        go_roundg (gk - 1)
        case measure => omega
        case rel => exact ⟨j + 1, by omega, by go_num, by rw [HN2.out]; rfl, rfl⟩
    · have hgeB : decide ((0 : Int) ≤ 40 - (j : Int)) = false := by simp; omega
      have hj41 : j = 41 := by omega
      subst hj41
      go_wp2_with fail
      go_ret
      refine ⟨?_, rfl⟩
      show Ending.returned (Value.int IntKind.u32 (((rootTo p two 41 : Nat) : Int) % 4294967296)) = _
      have e : (rootS p two).toNat = rootTo p two 41 % 4294967296 := UInt32.toNat_ofNat'
      rw [e]
      rfl
end Go.Proofs.Ytfdibjgmbdkbcaa
