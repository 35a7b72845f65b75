/-
  THE WALK of PackSize. Conditions: what comes in is read as bytes.
-/
import Derived.Test.YtjablgkebpmmhaaQTurns
import Derived.Laws.OwnMore
namespace Go.Proofs.Ytjablgkebpmmhaa
open Go.RowKit Go.Lib

theorem fill_next (c : UInt8) (n j : Nat) (h : j < n) : (List.replicate j c ++ List.replicate (n - j) (0 : UInt8)).set j c = List.replicate (j + 1) c ++ List.replicate (n - (j + 1)) 0 := by
  rw [List.set_append_right _ _ (by simp), List.length_replicate, Nat.sub_self, show n - j = (n - (j + 1)) + 1 by omega, List.replicate_succ, List.set_cons_zero, List.replicate_succ', List.append_assoc]
  rfl
theorem made_bytes (n : Nat) : (madeCells (Value.int .u8 0).cells (n * 1)).toList = (List.replicate n (0 : UInt8)).map bv := by
  rw [Nat.mul_one, List.map_replicate]
  unfold madeCells
  apply List.ext_getElem
  · simp
  · intro i h1 h2
    simp [Value.cells, bv, Nat.mod_one]
/-- what is packed, or that it is too much -/
theorem pack_both (w : World) (G : Nat → Prop) (v : Value) (b : Bs) (hb : Bytes w G v b) :
    Calls Try.prog 24 #[v] w fun e w' => ∃ (A : Option Addr) (c m z : Nat), e = .returned (.tuple #[.slice A m c, .int .i64 (z : Int)]) ∧ (z = 0 → b.length ≤ 4000 ∧ m ≤ 2 + b.length + (b.length + 7) / 8) ∧ Below w.heap.size w w' := by
  by_cases hl : b.length ≤ 4000
  · refine (pack_any w G v b hb hl).mono ?_
    rintro e w1 ⟨v1, rfl, ho, hx⟩
    obtain ⟨A, c, hv, _, _⟩ := Own.shape ho
    subst hv
    exact ⟨A, c, _, 0, rfl, fun _ => ⟨hl, Pk.pack_le b⟩, hx⟩
  · refine (pack_much w G v b hb hl).mono ?_
    rintro e w1 ⟨rfl, rfl⟩
    exact ⟨none, 0, 0, 4, rfl, fun h => by omega, Below.refl _ _⟩

set_option maxRecDepth 100000 in
set_option maxHeartbeats 2000000 in
theorem packSize_walk (w : World) (v0 : Value) (b : Bs) (h0 : Bytes w (fun _ => True) v0 b) (n1 : Int) (wf1 : (Lit.int .u8 n1).wf = true) (n2 : Int) :
    Calls Try.prog 9 #[v0, .int .u8 n1, .int .i64 n2] w fun e w' => e = .returned (.bool true) ∧ Below w.heap.size w w' := by
  obtain ⟨i0, hi, hz0, hz1, hz2⟩ := info_parts info_u8
  obtain ⟨ch, rfl⟩ : ∃ ch : UInt8, n1 = (ch.toNat : Int) := by
    have hr : 0 ≤ n1 ∧ n1 < 256 := by
      simp [Lit.wf, IntKind.min, IntKind.max, IntKind.bits, IntKind.signed] at wf1
      omega
    refine ⟨UInt8.ofNat n1.toNat, ?_⟩
    rw [UInt8.toNat_ofNat']
    omega
  obtain ⟨A, c, hv, hbc, hcm⟩ := h0.form'
  subst hv
  unfold maxLen at hcm
  clear wf1
  have hlen63 : b.length ≤ 140737488355200 ∨ ¬ b.length ≤ 140737488355200 := by omega
  go_enter Try.func9, Try.ntmps9
  go_wp2_with fail
  refine (alive4 w).mono ?_
  rintro e w1 ⟨rfl, hx1⟩
  have hb1 := h0.below hx1
  go_wp2_with fail
  refine (pack_both w1 _ _ b hb1).mono ?_
  rintro e w2 ⟨A2, c2, m, z, rfl, hm, hx2⟩
  have hxa := hx1.trans (hx2.mono hx1.size)
  have hq : z = 0 → decide ((2 : Int) + (b.length : Int) + ((b.length : Int) + 7) / 8 < (m : Int)) = false ∧ b.length ≤ 4000 := fun h => by
    obtain ⟨h1, h2⟩ := hm h
    exact ⟨by simp; omega, h1⟩
  clear hm
  rcases Nat.eq_zero_or_pos z with hz | hz
  · obtain ⟨hq1, hl⟩ := hq hz
    subst hz
    have hzz : (((0 : Nat) : Int) == 0) = true := rfl
    clear hq
    go_upto_region 6 with (fail)
    clear hq1 hl hzz
    by_cases hn1 : n2 < 0
    · go_wp2_with fail
      go_ret
      exact ⟨rfl, hxa⟩
    have hn1B : decide (n2 < 0) = false := decide_eq_false hn1
    by_cases hn2 : 4000 < n2
    · go_wp2_with fail
      go_ret
      exact ⟨rfl, hxa⟩
    have hn2B : decide (4000 < n2) = false := decide_eq_false hn2
    obtain ⟨n, rfl⟩ : ∃ n : Nat, n2 = (n : Int) := ⟨n2.toNat, by omega⟩
    have hn4 : n ≤ 4000 := by omega
    obtain ⟨w3, hmk, hmo, hmg⟩ := run_makeSlice_full (P := Try.prog) (w := w2) w2.heap.size 24 5 i0 _ 1 Try.underlying24 hi hz0 hz1 .i64 .i64 n (by omega) (by rw [hz2]; omega) (by simp [maxLen]; omega) (Nat.le_refl _)
    have hO : OwnB w3 w2.heap.size (.slice (some ⟨w2.heap.size, 0, none⟩) n n) (List.replicate n 0) := by
      have := Own.of_ownsRow hmo
      rw [made_bytes] at this
      unfold OwnB
      rw [List.length_replicate]
      exact this
    have hx3 : Below w2.heap.size w2 w3 := (Below.refl _ w2).grown hmg (Nat.le_refl _) (fun k e => by cases e)
    clear hmo hmg
    go_wp2_with fail
    go_loopg [43] n (fun k i wr => ∃ j : Nat, j + k = n ∧ i = .int .i64 (j : Int) ∧ OwnB wr w2.heap.size (.slice (some ⟨w2.heap.size, 0, none⟩) n n) (List.replicate j ch ++ List.replicate (n - j) 0) ∧ Below w2.heap.size w2 wr)
    case atStart => exact ⟨0, by omega, rfl, by simpa using hO, hx3⟩
    case round =>
      obtain ⟨j, hj, rfl, hOj, hx⟩ := hrel
      have hlen : (List.replicate j ch ++ List.replicate (n - j) (0 : UInt8)).length = n := by simp; omega
      by_cases hlt : j < n
      · have hltB : (j : Int) < (n : Int) := by omega
        have hO' : Own wr w2.heap.size 5 1 (.slice (some ⟨w2.heap.size, 0, none⟩) n n) n ((List.replicate j ch ++ List.replicate (n - j) (0 : UInt8)).map bv) := by
          have := hOj
          unfold OwnB at this
          rwa [hlen] at this
        have hg : ((List.replicate j ch ++ List.replicate (n - j) (0 : UInt8)).map bv)[j]? = some (bv 0) := by
          rw [List.getElem?_map, List.getElem?_append_right (by simp), List.length_replicate, Nat.sub_self, show n - j = (n - j - 1) + 1 by omega, List.replicate_succ]
          rfl
        obtain ⟨f0, f1⟩ := Own.at_ hO' hg
        have hOS := Own.set_ hO' j (bv ch)
        rw [Nat.zero_add] at f0 f1 hOS
        have hxS := hx.setCell (p := ⟨w2.heap.size, j, none⟩) (Nat.le_refl _) (bv ch)
        rw [← List.map_set, fill_next ch n j hlt] at hOS
        have hbv : bv ch = .int .u8 (ch.toNat : Int) := rfl
        rw [hbv] at hOS hxS
        have hle2 : (List.replicate (j + 1) ch ++ List.replicate (n - (j + 1)) (0 : UInt8)).length = n := by simp; omega
        have HL2 := Lib.hid hle2
        clear hO' hg hlen hle2 hOj hbv
        go_wp2_with fail
        go_roundg (gk - 1)
        case measure => omega
        case rel => exact ⟨j + 1, by omega, by go_num, by unfold OwnB; rw [HL2.out]; exact hOS, hxS⟩
      · have hltB : decide ((j : Int) < (n : Int)) = false := by simp; omega
        have hjn : j = n := by omega
        subst hjn
        rw [Nat.sub_self, List.replicate_zero, List.append_nil] at hOj hlen
        have hpr := Pk.pack_rep j ch
        have hl2 : (List.replicate j ch).length ≤ 4000 := by omega
        have hxb := hxa.trans (hx.mono hxa.size)
        generalize List.replicate j ch = rs at *
        clear hlen hx3 hO
        go_wp2_with fail
        refine (pack_any wr _ _ rs (OwnB.bytes hOj) hl2).mono ?_
        rintro e w4 ⟨v4, rfl, ho4, hx4⟩
        obtain ⟨A4, c4, hv4, hlc4, hcm4⟩ := Own.shape ho4
        subst hv4
        have hxc := hxb.trans (hx4.mono hxb.size)
        generalize (Pk.pack rs).length = pl at *
        have hplB : ((pl : Nat) : Int) ≤ 6 + (j : Int) / 25 := by omega
        go_wp2_with fail
        go_ret
        exact ⟨rfl, hxc⟩
  · have hzB : ((z : Int) == 0) = false := by rw [beq_eq_false_iff_ne]; omega
    clear hq
    go_upto_region 6 with (fail)
    clear hzB
    by_cases hn1 : n2 < 0
    · go_wp2_with fail
      go_ret
      exact ⟨rfl, hxa⟩
    have hn1B : decide (n2 < 0) = false := decide_eq_false hn1
    by_cases hn2 : 4000 < n2
    · go_wp2_with fail
      go_ret
      exact ⟨rfl, hxa⟩
    have hn2B : decide (4000 < n2) = false := decide_eq_false hn2
    obtain ⟨n, rfl⟩ : ∃ n : Nat, n2 = (n : Int) := ⟨n2.toNat, by omega⟩
    have hn4 : n ≤ 4000 := by omega
    obtain ⟨w3, hmk, hmo, hmg⟩ := run_makeSlice_full (P := Try.prog) (w := w2) w2.heap.size 24 5 i0 _ 1 Try.underlying24 hi hz0 hz1 .i64 .i64 n (by omega) (by rw [hz2]; omega) (by simp [maxLen]; omega) (Nat.le_refl _)
    have hO : OwnB w3 w2.heap.size (.slice (some ⟨w2.heap.size, 0, none⟩) n n) (List.replicate n 0) := by
      have := Own.of_ownsRow hmo
      rw [made_bytes] at this
      unfold OwnB
      rw [List.length_replicate]
      exact this
    have hx3 : Below w2.heap.size w2 w3 := (Below.refl _ w2).grown hmg (Nat.le_refl _) (fun k e => by cases e)
    clear hmo hmg
    go_wp2_with fail
    go_loopg [43] n (fun k i wr => ∃ j : Nat, j + k = n ∧ i = .int .i64 (j : Int) ∧ OwnB wr w2.heap.size (.slice (some ⟨w2.heap.size, 0, none⟩) n n) (List.replicate j ch ++ List.replicate (n - j) 0) ∧ Below w2.heap.size w2 wr)
    case atStart => exact ⟨0, by omega, rfl, by simpa using hO, hx3⟩
    case round =>
      obtain ⟨j, hj, rfl, hOj, hx⟩ := hrel
      have hlen : (List.replicate j ch ++ List.replicate (n - j) (0 : UInt8)).length = n := by simp; omega
      by_cases hlt : j < n
      · have hltB : (j : Int) < (n : Int) := by omega
        have hO' : Own wr w2.heap.size 5 1 (.slice (some ⟨w2.heap.size, 0, none⟩) n n) n ((List.replicate j ch ++ List.replicate (n - j) (0 : UInt8)).map bv) := by
          have := hOj
          unfold OwnB at this
          rwa [hlen] at this
        have hg : ((List.replicate j ch ++ List.replicate (n - j) (0 : UInt8)).map bv)[j]? = some (bv 0) := by
          rw [List.getElem?_map, List.getElem?_append_right (by simp), List.length_replicate, Nat.sub_self, show n - j = (n - j - 1) + 1 by omega, List.replicate_succ]
          rfl
        obtain ⟨f0, f1⟩ := Own.at_ hO' hg
        have hOS := Own.set_ hO' j (bv ch)
        rw [Nat.zero_add] at f0 f1 hOS
        have hxS := hx.setCell (p := ⟨w2.heap.size, j, none⟩) (Nat.le_refl _) (bv ch)
        rw [← List.map_set, fill_next ch n j hlt] at hOS
        have hbv : bv ch = .int .u8 (ch.toNat : Int) := rfl
        rw [hbv] at hOS hxS
        have hle2 : (List.replicate (j + 1) ch ++ List.replicate (n - (j + 1)) (0 : UInt8)).length = n := by simp; omega
        have HL2 := Lib.hid hle2
        clear hO' hg hlen hle2 hOj hbv
        go_wp2_with fail
        go_roundg (gk - 1)
        case measure => omega
        case rel => exact ⟨j + 1, by omega, by go_num, by unfold OwnB; rw [HL2.out]; exact hOS, hxS⟩
      · have hltB : decide ((j : Int) < (n : Int)) = false := by simp; omega
        have hjn : j = n := by omega
        subst hjn
        rw [Nat.sub_self, List.replicate_zero, List.append_nil] at hOj hlen
        have hpr := Pk.pack_rep j ch
        have hl2 : (List.replicate j ch).length ≤ 4000 := by omega
        have hxb := hxa.trans (hx.mono hxa.size)
        generalize List.replicate j ch = rs at *
        clear hlen hx3 hO
        go_wp2_with fail
        refine (pack_any wr _ _ rs (OwnB.bytes hOj) hl2).mono ?_
        rintro e w4 ⟨v4, rfl, ho4, hx4⟩
        obtain ⟨A4, c4, hv4, hlc4, hcm4⟩ := Own.shape ho4
        subst hv4
        have hxc := hxb.trans (hx4.mono hxb.size)
        generalize (Pk.pack rs).length = pl at *
        have hplB : ((pl : Nat) : Int) ≤ 6 + (j : Int) / 25 := by omega
        go_wp2_with fail
        go_ret
        exact ⟨rfl, hxc⟩
end Go.Proofs.Ytjablgkebpmmhaa
