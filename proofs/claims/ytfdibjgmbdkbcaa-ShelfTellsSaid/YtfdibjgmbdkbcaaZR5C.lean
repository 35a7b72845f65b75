/-
  THE WALK of yearref5.ParseRow. Conditions: what is read is bytes.
-/
import Derived.Deep.Cut
import Derived.BigQuiet
import Derived.Test.YtfdibjgmbdkbcaaZStep
import Derived.Test.YtfdibjgmbdkbcaaZR5A
import Derived.Test.YtfdibjgmbdkbcaaZPiece
namespace Go.Proofs.Ytfdibjgmbdkbcaa
open Go.RowKit Go.Lib
attribute [local go_sem ↓] Go.wp_at_zero Go.wp_at_succ

/-- what ParseRow gives: the row's root is a part of what was read -/
def RowPost (w : World) (F : Nat → Prop) (l : Bs) (e : Ending) (w' : World) : Prop :=
  ∃ vr, e = .returned (.tuple #[recV (Bk.parseR l) vr, .int .i64 (Bk.wrongP l : Nat)]) ∧ Bytes w' F vr (Bk.parseR l).root ∧ Below w.heap.size w w'

theorem rwrongR_any32 (w : World) (sh fr tt sz : Int) (A : Option Addr) (c : Nat) (root : Bs) (h : root.length = 32) :
    Calls Try.prog 48 #[.agg #[.int .i64 sh, .int .i64 fr, .int .i64 tt, .int .i64 sz, .slice A 32 c]] w fun e w' => e = .returned (.int .i64 (Bk.wrongR ⟨sh, fr, tt, sz, root⟩ : Nat)) ∧ Below w.heap.size w w' := by
  have h2 := rwrongR_any w sh fr tt sz A c root
  rwa [h] at h2
theorem keepS {w z z' : World} {q off c : Nat} {x0 x7 : Int} (h : z.cell? ⟨w.heap.size, 0, none⟩ = some (.slice (some ⟨q, off, none⟩) 40 c) ∧ z.cell? ⟨q, off, none⟩ = some (.int .u8 x0) ∧ z.cell? ⟨q, off + 7, none⟩ = some (.int .u8 x7) ∧ Below w.heap.size w z)
    (hs : w.heap.size < z.heap.size) (hq : q < w.heap.size) (hz : Below z.heap.size z z') :
    z'.cell? ⟨w.heap.size, 0, none⟩ = some (.slice (some ⟨q, off, none⟩) 40 c) ∧ z'.cell? ⟨q, off, none⟩ = some (.int .u8 x0) ∧ z'.cell? ⟨q, off + 7, none⟩ = some (.int .u8 x7) ∧ Below w.heap.size w z' :=
  ⟨(hz.cell (p := ⟨w.heap.size, 0, none⟩) hs).trans h.1, (hz.cell (p := ⟨q, off, none⟩) (Nat.lt_trans hq hs)).trans h.2.1, (hz.cell (p := ⟨q, off + 7, none⟩) (Nat.lt_trans hq hs)).trans h.2.2.1, h.2.2.2.trans (hz.mono h.2.2.2.size)⟩
theorem keepSet {w z : World} {q off c : Nat} {x0 x7 : Int} (h : z.cell? ⟨w.heap.size, 0, none⟩ = some (.slice (some ⟨q, off, none⟩) 40 c) ∧ z.cell? ⟨q, off, none⟩ = some (.int .u8 x0) ∧ z.cell? ⟨q, off + 7, none⟩ = some (.int .u8 x7) ∧ Below w.heap.size w z)
    (g k : Nat) (hg : w.heap.size < g) (hq : q ≠ g) (v : Value) :
    (z.setCell ⟨g, k, none⟩ v).cell? ⟨w.heap.size, 0, none⟩ = some (.slice (some ⟨q, off, none⟩) 40 c) ∧ (z.setCell ⟨g, k, none⟩ v).cell? ⟨q, off, none⟩ = some (.int .u8 x0) ∧ (z.setCell ⟨g, k, none⟩ v).cell? ⟨q, off + 7, none⟩ = some (.int .u8 x7) ∧ Below w.heap.size w (z.setCell ⟨g, k, none⟩ v) :=
  ⟨(World.cell?_of_block (Below.heap_setCell z ⟨g, k, none⟩ v w.heap.size (by show w.heap.size ≠ g; omega))).trans h.1, (World.cell?_of_block (Below.heap_setCell z ⟨g, k, none⟩ v q (by show q ≠ g; omega))).trans h.2.1, (World.cell?_of_block (Below.heap_setCell z ⟨g, k, none⟩ v q (by show q ≠ g; omega))).trans h.2.2.1, h.2.2.2.setCell (Nat.le_of_lt hg) v⟩

theorem num_three (x y z : UInt8) : Bk.num [x, y, z] = x.toNat * 65536 + y.toNat * 256 + z.toNat := by
  simp only [Bk.num, Bk.numF, List.foldl_cons, List.foldl_nil]; omega
theorem num_one (x : UInt8) : Bk.num [x] = x.toNat := by simp [Bk.num, Bk.numF]
theorem take3 (l : Bs) (i : Nat) (h : i + 2 < l.length) : (l.drop i).take 3 = [l.getD i 0, l.getD (i + 1) 0, l.getD (i + 2) 0] := by
  rw [List.drop_eq_getElem_cons (by omega), List.take_succ_cons, List.drop_eq_getElem_cons (by omega), List.take_succ_cons, List.drop_eq_getElem_cons (by omega), List.take_succ_cons, List.take_zero]
  simp only [List.getD_eq_getElem?_getD, List.getElem?_eq_getElem (show i < l.length by omega), List.getElem?_eq_getElem (show i + 1 < l.length by omega), List.getElem?_eq_getElem (show i + 2 < l.length by omega), Option.getD_some]
theorem take1 (l : Bs) (i : Nat) (h : i < l.length) : (l.drop i).take 1 = [l.getD i 0] := by
  rw [List.drop_eq_getElem_cons (by omega), List.take_succ_cons, List.take_zero]
  simp only [List.getD_eq_getElem?_getD, List.getElem?_eq_getElem (show i < l.length by omega), Option.getD_some]
/-- bytes lie where they lie -/
theorem Bytes.cells {w : World} {F : Nat → Prop} {A : Option Addr} {c : Nat} {b : Bs} (hb : Bytes w F (.slice A b.length c) b) (h0 : 0 < b.length) :
    ∃ q off, A = some ⟨q, off, none⟩ ∧ q < w.heap.size ∧ ∀ i, i < b.length → w.cell? ⟨q, off + i, none⟩ = some (.int .u8 ((b.getD i 0).toNat : Int)) := by
  obtain ⟨A', c', hv, _, _, _, h⟩ := hb
  injection hv with e1 e2 e3
  subst e1
  obtain ⟨q, off, h, _, hq, hcc⟩ := h (by omega)
  exact ⟨q, off, h, hq, fun i hi => hcc i (bv (b.getD i 0)) (by rw [List.getElem?_map, List.getElem?_eq_getElem hi, List.getD_eq_getElem?_getD, List.getElem?_eq_getElem hi]; rfl)⟩

set_option maxRecDepth 100000 in
set_option maxHeartbeats 2000000 in
/-- three bytes, told by the inner function -/
theorem three_any (w : World) (F : Nat → Prop) (g : Nat) (A : Option Addr) (c : Nat) (l : Bs) (i : Nat) (hb : w.cell? ⟨g, 0, none⟩ = some (.slice A 40 c)) (hl : Bytes w F (.slice A 40 c) l) (h4 : l.length = 40) (h : i + 2 < 40) :
    Calls Try.prog 106 #[.int .i64 (i : Int), .pointer (some ⟨g, 0, none⟩)] w fun e w' => e = .returned (.int .i64 (Bk.num ((l.drop i).take 3) : Nat)) ∧ ∃ n, w' = w.drewN n := by
  have hl' : Bytes w F (.slice A l.length c) l := by rw [h4]; exact hl
  obtain ⟨q, off, rfl, hq, hcc⟩ := Bytes.cells hl' (by omega)
  have c0 := hcc i (by omega)
  have c1 := hcc (i + 1) (by omega)
  have c2 := hcc (i + 2) (by omega)
  have ht := take3 l i (by omega)
  have hn := num_three (l.getD i 0) (l.getD (i + 1) 0) (l.getD (i + 2) 0)
  rw [← ht] at hn
  have b0 := (l.getD i 0).toNat_lt
  have b1 := (l.getD (i + 1) 0).toNat_lt
  have b2 := (l.getD (i + 2) 0).toNat_lt
  have HN := Lib.hid hn
  clear hcc ht hn hl hl' h4
  generalize l.getD i 0 = x at *
  generalize l.getD (i + 1) 0 = y at *
  generalize l.getD (i + 2) 0 = z at *
  have c1' : w.cell? ⟨q, off + i + 1, none⟩ = some (.int .u8 (y.toNat : Int)) := c1
  have c2' : w.cell? ⟨q, off + i + 2, none⟩ = some (.int .u8 (z.toNat : Int)) := c2
  have hi40 : (i : Int) < 40 := by omega
  have hi1 : (i : Int) + 1 < 40 := by omega
  have hi2 : (i : Int) + 2 < 40 := by omega
  have w1 : IntKind.i64.wrap ((i : Int) + 1) = ((i + 1 : Nat) : Int) := by rw [IntWalk.i64_in _ (by omega)]; omega
  have w2 : IntKind.i64.wrap ((i : Int) + 2) = ((i + 2 : Nat) : Int) := by rw [IntWalk.i64_in _ (by omega)]; omega
  go_enter Try.func106, Try.ntmps106
  go_upto_region 1 with (fail)
  go_quiet (fail)
  go_wp2_with fail
  go_ret
  have e : 65536 * (x.toNat : Int) + 256 * (y.toNat : Int) + (z.toNat : Int) = ((x.toNat * 65536 + y.toNat * 256 + z.toNat : Nat) : Int) := by omega
  refine ⟨?_, _, rfl⟩
  rw [HN.out, ← e]
  rfl

set_option maxRecDepth 100000 in
set_option maxHeartbeats 4000000 in
theorem rparse_any (w : World) (F : Nat → Prop) (v : Value) (l : Bs) (hl : Bytes w F v l) :
    Calls Try.prog 52 #[v] w (RowPost w F l) := by
  obtain ⟨A, c, hv, hlc, hcm⟩ := hl.form'
  subst hv
  unfold maxLen at hcm
  obtain ⟨w2, hw2⟩ : ∃ z, z = (w.alloc (.cells #[.slice A l.length c] 22)).alloc (.cells #[.int .i64 0, .int .i64 0, .int .i64 0, .int .i64 0, .slice none 0 0] 61) := ⟨_, rfl⟩
  have hx0 : Below w.heap.size w w2 := by rw [hw2]; exact ((Below.refl w.heap.size w).alloc (Nat.le_refl _) _).alloc (by simp) _
  have hR0 : Blk w2 (w.heap.size + 1) 61 #[.int .i64 0, .int .i64 0, .int .i64 0, .int .i64 0, .slice none 0 0] := by
    rw [hw2]
    have h := heap_alloc_new (w.alloc (.cells #[.slice A l.length c] 22)) (.cells #[.int .i64 0, .int .i64 0, .int .i64 0, .int .i64 0, .slice none 0 0] 61)
    rwa [World.size_alloc] at h
  have hbx : Blk w2 w.heap.size 22 #[.slice A l.length c] := by rw [hw2]; exact Blk.alloc (heap_alloc_new w _) _
  have hcb : w2.cell? ⟨w.heap.size, 0, none⟩ = some (.slice A l.length c) := hbx.cell 0
  have hlt0 := hR0.lt
  have HW2 := Lib.hid hw2
  clear hw2 hbx
  by_cases h40 : l.length = 40
  · obtain ⟨q, off, rfl, hqs, hcc⟩ := Bytes.cells hl (by omega)
    have s5 := hl.tail 8 (by omega)
    rw [h40] at s5 hcb
    rw [show 40 - 8 = 32 from rfl] at s5
    have hrd : Bk.readR l = ⟨(Bk.num (l.take 1) : Nat), (Bk.num ((l.drop 1).take 3) : Nat), (Bk.num ((l.drop 4).take 3) : Nat), (Bk.num ((l.drop 7).take 1) : Nat), l.drop 8⟩ := rfl
    have t0 : Bk.num (l.take 1) = (l.getD 0 0).toNat := by have := take1 l 0 (by omega); rw [List.drop_zero] at this; rw [this, num_one]
    have t7 : Bk.num ((l.drop 7).take 1) = (l.getD 7 0).toNat := by rw [take1 l 7 (by omega), num_one]
    have q0 : w.cell? ⟨q, off, none⟩ = some (.int .u8 ((Bk.num (l.take 1) : Nat) : Int)) := by rw [t0]; exact hcc 0 (by omega)
    have q7 : w.cell? ⟨q, off + 7, none⟩ = some (.int .u8 ((Bk.num ((l.drop 7).take 1) : Nat) : Int)) := by rw [t7]; exact hcc 7 (by omega)
    have b1 : Bk.num (l.take 1) < 256 := by rw [t0]; exact (l.getD 0 0).toNat_lt
    have b4 : Bk.num ((l.drop 7).take 1) < 256 := by rw [t7]; exact (l.getD 7 0).toNat_lt
    obtain ⟨n1, HN1⟩ : ∃ n, Hid (n = Bk.num (l.take 1)) := ⟨_, Lib.hid rfl⟩
    obtain ⟨n2, HN2⟩ : ∃ n, Hid (n = Bk.num ((l.drop 1).take 3)) := ⟨_, Lib.hid rfl⟩
    obtain ⟨n3, HN3⟩ : ∃ n, Hid (n = Bk.num ((l.drop 4).take 3)) := ⟨_, Lib.hid rfl⟩
    obtain ⟨n4, HN4⟩ : ∃ n, Hid (n = Bk.num ((l.drop 7).take 1)) := ⟨_, Lib.hid rfl⟩
    rw [← HN1.out] at q0 b1
    rw [← HN4.out] at q7 b4
    rw [← HN1.out, ← HN2.out, ← HN3.out, ← HN4.out] at hrd
    have hwp : Bk.wrongP l = Bk.wrongR ⟨n1, n2, n3, n4, l.drop 8⟩ := by unfold Bk.wrongP; rw [if_neg (by omega), hrd]
    have hpr : Bk.parseR l = if Bk.wrongP l = 0 then ⟨n1, n2, n3, n4, l.drop 8⟩ else Bk.zeroR := by unfold Bk.parseR; rw [hrd]
    have hl8 : (l.drop 8).length = 32 := by rw [List.length_drop]; omega
    have s5' : SlAt w F 1 (.slice (some ⟨q, off + 8, none⟩) 32 (c - 8)) 32 ((l.drop 8).map bv) := by
      have h := s5
      unfold Bytes at h
      rw [hl8] at h
      exact h
    have HWP := Lib.hid hwp
    have HPR := Lib.hid hpr
    have HL8 := Lib.hid hl8
    have H40 := Lib.hid h40
    clear hwp hpr hl8 hrd h40 t0 t7 hcc
    rw [H40.out] at hl HW2 hlc
    have c40' : (40 : Int) ≤ (c : Int) := by omega
    have v1 : IntKind.i64.wrap (n1 : Int) = (n1 : Int) := IntWalk.i64_in _ (by omega)
    have v4 : IntKind.i64.wrap (n4 : Int) = (n4 : Int) := IntWalk.i64_in _ (by omega)
    have k8 : ((c : Int) == 8) = false := by rw [beq_eq_false_iff_ne]; omega
    have m8 : ¬ c = 8 := by omega
    have u8 : (8 : Int) ≤ (c : Int) := by omega
    have hS0 : w2.drew.cell? ⟨w.heap.size, 0, none⟩ = some (.slice (some ⟨q, off, none⟩) 40 c) ∧ w2.drew.cell? ⟨q, off, none⟩ = some (.int .u8 (n1 : Int)) ∧ w2.drew.cell? ⟨q, off + 7, none⟩ = some (.int .u8 (n4 : Int)) ∧ Below w.heap.size w w2.drew :=
      ⟨hcb, (hx0.cell (p := ⟨q, off, none⟩) hqs).trans q0, (hx0.cell (p := ⟨q, off + 7, none⟩) hqs).trans q7, hx0.drew⟩
    rw [H40.out]
    go_enter Try.func52, Try.ntmps52
    go_upto_region 4 with (fail)
    rw [← HW2.out]
    have hR0 : Blk w2.drew (w.heap.size + 1) 61 #[.int .i64 0, .int .i64 0, .int .i64 0, .int .i64 0, .slice none 0 0] := hR0
    have hlt0 : w.heap.size + 1 < w2.drew.heap.size := hlt0
    clear hcb hx0 q0 q7 s5
    go_cut [5] (fun u5 wq => ∃ g, u5 = .pointer (some ⟨g, 0, none⟩) ∧ Blk wq g 61 #[.int .i64 (n1 : Int), .int .i64 (n2 : Int), .int .i64 (n3 : Int), .int .i64 (n4 : Int), .slice (some ⟨q, off + 8, none⟩) 32 (c - 8)] ∧ Blk wq (w.heap.size + 1) 61 #[.int .i64 0, .int .i64 0, .int .i64 0, .int .i64 0, .slice none 0 0] ∧ w.heap.size + 1 ≠ g ∧ Below w.heap.size w wq)
    case first =>
      refine wp_region_held_drew (S := (fun z : World => z.cell? ⟨w.heap.size, 0, none⟩ = some (.slice (some ⟨q, off, none⟩) 40 c) ∧ z.cell? ⟨q, off, none⟩ = some (.int .u8 (n1 : Int)) ∧ z.cell? ⟨q, off + 7, none⟩ = some (.int .u8 (n4 : Int)) ∧ Below w.heap.size w z)) (by kernel_rfl) ?_ (fun hHeld => ?_)
      · exact hS0
      generalize hWe : w2.drew = W at *
      clear hWe
      refine step_take (i := 0) (v := ?_) rfl (by kernel_rfl) (by kernel_rfl) (by kernel_rfl) (fun _ _ _ h => h) (by rfl) ?yp1 (by assumption) ?_
      case yp1 => (intro w hSw; (try dsimp only at hSw); go_simp; (try with_reducible rfl))
      try simp only [Act.put, List.setIfInBounds_toArray, List.set_cons_zero, List.set_cons_succ]
      refine step_take (i := 1) (v := ?_) rfl (by kernel_rfl) (by kernel_rfl) (by kernel_rfl) (fun _ _ _ h => h) (by rfl) ?yp2 (by assumption) ?_
      case yp2 => (intro w hSw; (try dsimp only at hSw); go_simp; (try with_reducible rfl))
      try simp only [Act.put, List.setIfInBounds_toArray, List.set_cons_zero, List.set_cons_succ]
      refine step_take (i := 2) (v := ?_) rfl (by kernel_rfl) (by kernel_rfl) (by kernel_rfl) (fun _ _ _ h => h) (by rfl) ?yp3 (by assumption) ?_
      case yp3 => (intro w hSw; (try dsimp only at hSw); go_simp; (try with_reducible rfl))
      try simp only [Act.put, List.setIfInBounds_toArray, List.set_cons_zero, List.set_cons_succ]
      refine step_take (i := 3) (v := ?_) rfl (by kernel_rfl) (by kernel_rfl) (by kernel_rfl) (fun _ _ _ h => h) (by rfl) ?yp4 (by assumption) ?_
      case yp4 => (intro w hSw; (try dsimp only at hSw); go_simp; (try with_reducible rfl))
      try simp only [Act.put, List.setIfInBounds_toArray, List.set_cons_zero, List.set_cons_succ]
      refine step_take (i := 4) (v := ?_) rfl (by kernel_rfl) (by kernel_rfl) (by kernel_rfl) (fun _ _ _ h => h) (by rfl) ?yp5 (by assumption) ?_
      case yp5 => (intro w hSw; (try dsimp only at hSw); go_simp; (try with_reducible rfl))
      try simp only [Act.put, List.setIfInBounds_toArray, List.set_cons_zero, List.set_cons_succ]
      refine step_take (i := 6) (v := ?_) rfl (by kernel_rfl) (by kernel_rfl) (by kernel_rfl) (fun _ _ _ h => h) (by rfl) ?yp6 (by assumption) ?_
      case yp6 => (intro w hSw; (try dsimp only at hSw); go_simp; (try with_reducible rfl))
      try simp only [Act.put, List.setIfInBounds_toArray, List.set_cons_zero, List.set_cons_succ]
      refine step_take (i := 8) (v := ?_) rfl (by kernel_rfl) (by kernel_rfl) (by kernel_rfl) (fun _ _ _ h => h) (by rfl) ?yp7 (by assumption) ?_
      case yp7 => (intro w hSw; (try dsimp only at hSw); go_simp; (try with_reducible rfl))
      try simp only [Act.put, List.setIfInBounds_toArray, List.set_cons_zero, List.set_cons_succ]
      refine step_take (i := 9) (v := ?_) rfl (by kernel_rfl) (by kernel_rfl) (by kernel_rfl) (fun _ _ _ h => h) (by rfl) ?yp8 (by assumption) ?_
      case yp8 => (intro w hSw; (try dsimp only at hSw); go_simp; (try with_reducible rfl))
      try simp only [Act.put, List.setIfInBounds_toArray, List.set_cons_zero, List.set_cons_succ]
      refine step_take (i := 10) (v := ?_) rfl (by kernel_rfl) (by kernel_rfl) (by kernel_rfl) (fun _ _ _ h => h) (by rfl) ?yp9 (by assumption) ?_
      case yp9 => (intro w hSw; (try dsimp only at hSw); go_simp; (try with_reducible rfl))
      try simp only [Act.put, List.setIfInBounds_toArray, List.set_cons_zero, List.set_cons_succ]
      refine step_take (i := 11) (v := ?_) rfl (by kernel_rfl) (by kernel_rfl) (by kernel_rfl) (fun _ _ _ h => h) (by rfl) ?yp10 (by assumption) ?_
      case yp10 => (intro w hSw; (try dsimp only at hSw); go_simp; (try with_reducible rfl))
      try simp only [Act.put, List.setIfInBounds_toArray, List.set_cons_zero, List.set_cons_succ]
      refine step_take (i := 12) (v := ?_) rfl (by kernel_rfl) (by kernel_rfl) (by kernel_rfl) (fun _ _ _ h => h) (by rfl) ?yp11 (by assumption) ?_
      case yp11 => (intro w hSw; (try dsimp only at hSw); go_simp; (try with_reducible rfl))
      try simp only [Act.put, List.setIfInBounds_toArray, List.set_cons_zero, List.set_cons_succ]
      refine step_take (i := 13) (v := ?_) rfl (by kernel_rfl) (by kernel_rfl) (by kernel_rfl) (fun _ _ _ h => h) (by rfl) ?yp12 (by assumption) ?_
      case yp12 => (intro w hSw; (try dsimp only at hSw); go_simp; (try with_reducible rfl))
      try simp only [Act.put, List.setIfInBounds_toArray, List.set_cons_zero, List.set_cons_succ]
      refine step_take (i := 14) (v := ?_) rfl (by kernel_rfl) (by kernel_rfl) (by kernel_rfl) (fun _ _ _ h => h) (by rfl) ?yp13 (by assumption) ?_
      case yp13 => (intro w hSw; (try dsimp only at hSw); go_simp; (try with_reducible rfl))
      try simp only [Act.put, List.setIfInBounds_toArray, List.set_cons_zero, List.set_cons_succ]
      refine step_two 5 16 rfl rfl (by kernel_rfl) (by rfl) (by rfl) (fun K hK => ?_) (fun K hK => ?_)
      · skip
        go_simp
        refine (three_any W F w.heap.size (some ⟨q, off, none⟩) c l 1 hS0.1 (Bytes.below hl hS0.2.2.2) H40.out (by omega)).mono ?_
        rintro e y ⟨rfl, ma, hy⟩
        rw [← HN2.out]
        have hSa : y.cell? ⟨w.heap.size, 0, none⟩ = some (.slice (some ⟨q, off, none⟩) 40 c) ∧ y.cell? ⟨q, off, none⟩ = some (.int .u8 (n1 : Int)) ∧ y.cell? ⟨q, off + 7, none⟩ = some (.int .u8 (n4 : Int)) ∧ Below w.heap.size w y := by rw [hy]; exact keepS hS0 (by have := hlt0; omega) hqs (below_drewN (Below.refl _ _) ma)
        have hRa : Blk y (w.heap.size + 1) 61 #[.int .i64 0, .int .i64 0, .int .i64 0, .int .i64 0, .slice none 0 0] := by rw [hy]; exact hR0.drewN ma
        have hlta : w.heap.size + 1 < y.heap.size := hRa.lt
        clear hy
        obtain ⟨Wa, rfl⟩ : ∃ z, z = y := ⟨_, rfl⟩
        go_simp
        refine hK.out _ _ ?_ (fun hHeld => ?_)
        · exact hSa
        clear hK K
        try simp only [Act.put, List.setIfInBounds_toArray, List.set_cons_zero, List.set_cons_succ]
        refine step_two 7 16 rfl rfl (by kernel_rfl) (by rfl) (by rfl) (fun K hK => ?_) (fun K hK => ?_)
        · skip
          go_simp
          refine (three_any Wa F w.heap.size (some ⟨q, off, none⟩) c l 4 hSa.1 (Bytes.below hl hSa.2.2.2) H40.out (by omega)).mono ?_
          rintro e y ⟨rfl, mab, hy⟩
          rw [← HN3.out]
          have hSab : y.cell? ⟨w.heap.size, 0, none⟩ = some (.slice (some ⟨q, off, none⟩) 40 c) ∧ y.cell? ⟨q, off, none⟩ = some (.int .u8 (n1 : Int)) ∧ y.cell? ⟨q, off + 7, none⟩ = some (.int .u8 (n4 : Int)) ∧ Below w.heap.size w y := by rw [hy]; exact keepS hSa (by have := hlta; omega) hqs (below_drewN (Below.refl _ _) mab)
          have hRab : Blk y (w.heap.size + 1) 61 #[.int .i64 0, .int .i64 0, .int .i64 0, .int .i64 0, .slice none 0 0] := by rw [hy]; exact hRa.drewN mab
          have hltab : w.heap.size + 1 < y.heap.size := hRab.lt
          clear hy
          obtain ⟨Wab, rfl⟩ : ∃ z, z = y := ⟨_, rfl⟩
          go_simp
          refine hK.out _ _ ?_ (fun hHeld => ?_)
          · exact hSab
          clear hK K
          try simp only [Act.put, List.setIfInBounds_toArray, List.set_cons_zero, List.set_cons_succ]
          refine step_take (i := 15) (v := ?_) rfl (by kernel_rfl) (by kernel_rfl) (by kernel_rfl) (fun _ _ _ h => h) (by rfl) ?yp14 (by assumption) ?_
          case yp14 => (intro w hSw; (try dsimp only at hSw); go_simp; (try with_reducible rfl))
          try simp only [Act.put, List.setIfInBounds_toArray, List.set_cons_zero, List.set_cons_succ]
          refine step_alone 16 rfl (by kernel_rfl) (by rfl) (fun K hK => ?_)
          go_simp
          obtain ⟨g, hg⟩ : ∃ g, g = Wab.heap.size := ⟨_, rfl⟩
          rw [← hg]
          have hSabn : (Wab.alloc (.cells #[.int .i64 0, .int .i64 0, .int .i64 0, .int .i64 0, .slice none 0 0] 61)).cell? ⟨w.heap.size, 0, none⟩ = some (.slice (some ⟨q, off, none⟩) 40 c) ∧ (Wab.alloc (.cells #[.int .i64 0, .int .i64 0, .int .i64 0, .int .i64 0, .slice none 0 0] 61)).cell? ⟨q, off, none⟩ = some (.int .u8 (n1 : Int)) ∧ (Wab.alloc (.cells #[.int .i64 0, .int .i64 0, .int .i64 0, .int .i64 0, .slice none 0 0] 61)).cell? ⟨q, off + 7, none⟩ = some (.int .u8 (n4 : Int)) ∧ Below w.heap.size w (Wab.alloc (.cells #[.int .i64 0, .int .i64 0, .int .i64 0, .int .i64 0, .slice none 0 0] 61)) := keepS hSab (by have := hltab; omega) hqs ((Below.refl _ _).alloc (Nat.le_refl _) _)
          have hRabn : Blk (Wab.alloc (.cells #[.int .i64 0, .int .i64 0, .int .i64 0, .int .i64 0, .slice none 0 0] 61)) (w.heap.size + 1) 61 #[.int .i64 0, .int .i64 0, .int .i64 0, .int .i64 0, .slice none 0 0] := hRab.alloc _
          have hBabn : Blk (Wab.alloc (.cells #[.int .i64 0, .int .i64 0, .int .i64 0, .int .i64 0, .slice none 0 0] 61)) g 61 #[.int .i64 0, .int .i64 0, .int .i64 0, .int .i64 0, .slice none 0 0] := by rw [hg]; exact heap_alloc_new Wab _
          have hgl : w.heap.size + 1 < g := by rw [hg]; exact hltab
          have hltabn : w.heap.size + 1 < (Wab.alloc (.cells #[.int .i64 0, .int .i64 0, .int .i64 0, .int .i64 0, .slice none 0 0] 61)).heap.size := hRabn.lt
          clear hg
          generalize Wab.alloc (.cells #[.int .i64 0, .int .i64 0, .int .i64 0, .int .i64 0, .slice none 0 0] 61) = Wabn at *
          refine hK.out _ _ ?_ (fun hHeld => ?_)
          · exact hSabn
          clear hK K
          try simp only [Act.put, List.setIfInBounds_toArray, List.set_cons_zero, List.set_cons_succ]
          refine step_alone 17 rfl (by kernel_rfl) (by rfl) (fun K hK => ?_)
          have cc0 : Wabn.cell? ⟨g, 0, none⟩ = some (.int .i64 0) := hBabn.cell 0
          have cf0 : Wabn.frozen? ⟨g, 0, none⟩ = false := hBabn.frozen 0
          have cc1 : Wabn.cell? ⟨g, 1, none⟩ = some (.int .i64 0) := hBabn.cell 1
          have cf1 : Wabn.frozen? ⟨g, 1, none⟩ = false := hBabn.frozen 1
          have cc2 : Wabn.cell? ⟨g, 2, none⟩ = some (.int .i64 0) := hBabn.cell 2
          have cf2 : Wabn.frozen? ⟨g, 2, none⟩ = false := hBabn.frozen 2
          have cc3 : Wabn.cell? ⟨g, 3, none⟩ = some (.int .i64 0) := hBabn.cell 3
          have cf3 : Wabn.frozen? ⟨g, 3, none⟩ = false := hBabn.frozen 3
          have cc4 : Wabn.cell? ⟨g, 4, none⟩ = some (.slice none 0 0) := hBabn.cell 4
          have cf4 : Wabn.frozen? ⟨g, 4, none⟩ = false := hBabn.frozen 4
          go_simp
          have hBF : Blk (((((Wabn.setCell ⟨g, 0, none⟩ (.int .i64 (n1 : Int))).setCell ⟨g, 1, none⟩ (.int .i64 (n2 : Int))).setCell ⟨g, 2, none⟩ (.int .i64 (n3 : Int))).setCell ⟨g, 3, none⟩ (.int .i64 (n4 : Int))).setCell ⟨g, 4, none⟩ (.slice (some ⟨q, off + 8, none⟩) 32 (c - 8))) g 61 #[.int .i64 (n1 : Int), .int .i64 (n2 : Int), .int .i64 (n3 : Int), .int .i64 (n4 : Int), .slice (some ⟨q, off + 8, none⟩) 32 (c - 8)] := (((((hBabn.set_ 0 (.int .i64 (n1 : Int))).set_ 1 (.int .i64 (n2 : Int))).set_ 2 (.int .i64 (n3 : Int))).set_ 3 (.int .i64 (n4 : Int))).set_ 4 (.slice (some ⟨q, off + 8, none⟩) 32 (c - 8)))
          have hRF : Blk (((((Wabn.setCell ⟨g, 0, none⟩ (.int .i64 (n1 : Int))).setCell ⟨g, 1, none⟩ (.int .i64 (n2 : Int))).setCell ⟨g, 2, none⟩ (.int .i64 (n3 : Int))).setCell ⟨g, 3, none⟩ (.int .i64 (n4 : Int))).setCell ⟨g, 4, none⟩ (.slice (some ⟨q, off + 8, none⟩) 32 (c - 8))) (w.heap.size + 1) 61 #[.int .i64 0, .int .i64 0, .int .i64 0, .int .i64 0, .slice none 0 0] := by
            have hne : w.heap.size + 1 ≠ g := by omega
            exact ((((hRabn.far hne _).far hne _).far hne _).far hne _).far hne _
          have hXF : Below w.heap.size w (((((Wabn.setCell ⟨g, 0, none⟩ (.int .i64 (n1 : Int))).setCell ⟨g, 1, none⟩ (.int .i64 (n2 : Int))).setCell ⟨g, 2, none⟩ (.int .i64 (n3 : Int))).setCell ⟨g, 3, none⟩ (.int .i64 (n4 : Int))).setCell ⟨g, 4, none⟩ (.slice (some ⟨q, off + 8, none⟩) 32 (c - 8))) := (Below.setCell (p := ⟨g, 4, none⟩) (Below.setCell (p := ⟨g, 3, none⟩) (Below.setCell (p := ⟨g, 2, none⟩) (Below.setCell (p := ⟨g, 1, none⟩) (Below.setCell (p := ⟨g, 0, none⟩) hSabn.2.2.2 (by show w.heap.size ≤ g; omega) (.int .i64 (n1 : Int))) (by show w.heap.size ≤ g; omega) (.int .i64 (n2 : Int))) (by show w.heap.size ≤ g; omega) (.int .i64 (n3 : Int))) (by show w.heap.size ≤ g; omega) (.int .i64 (n4 : Int))) (by show w.heap.size ≤ g; omega) (.slice (some ⟨q, off + 8, none⟩) 32 (c - 8)))
          have hqg : q ≠ g := by omega
          have hSF : (((((Wabn.setCell ⟨g, 0, none⟩ (.int .i64 (n1 : Int))).setCell ⟨g, 1, none⟩ (.int .i64 (n2 : Int))).setCell ⟨g, 2, none⟩ (.int .i64 (n3 : Int))).setCell ⟨g, 3, none⟩ (.int .i64 (n4 : Int))).setCell ⟨g, 4, none⟩ (.slice (some ⟨q, off + 8, none⟩) 32 (c - 8))).cell? ⟨w.heap.size, 0, none⟩ = some (.slice (some ⟨q, off, none⟩) 40 c) ∧ (((((Wabn.setCell ⟨g, 0, none⟩ (.int .i64 (n1 : Int))).setCell ⟨g, 1, none⟩ (.int .i64 (n2 : Int))).setCell ⟨g, 2, none⟩ (.int .i64 (n3 : Int))).setCell ⟨g, 3, none⟩ (.int .i64 (n4 : Int))).setCell ⟨g, 4, none⟩ (.slice (some ⟨q, off + 8, none⟩) 32 (c - 8))).cell? ⟨q, off, none⟩ = some (.int .u8 (n1 : Int)) ∧ (((((Wabn.setCell ⟨g, 0, none⟩ (.int .i64 (n1 : Int))).setCell ⟨g, 1, none⟩ (.int .i64 (n2 : Int))).setCell ⟨g, 2, none⟩ (.int .i64 (n3 : Int))).setCell ⟨g, 3, none⟩ (.int .i64 (n4 : Int))).setCell ⟨g, 4, none⟩ (.slice (some ⟨q, off + 8, none⟩) 32 (c - 8))).cell? ⟨q, off + 7, none⟩ = some (.int .u8 (n4 : Int)) ∧ Below w.heap.size w (((((Wabn.setCell ⟨g, 0, none⟩ (.int .i64 (n1 : Int))).setCell ⟨g, 1, none⟩ (.int .i64 (n2 : Int))).setCell ⟨g, 2, none⟩ (.int .i64 (n3 : Int))).setCell ⟨g, 3, none⟩ (.int .i64 (n4 : Int))).setCell ⟨g, 4, none⟩ (.slice (some ⟨q, off + 8, none⟩) 32 (c - 8))) := (keepSet (keepSet (keepSet (keepSet (keepSet hSabn g 0 (by omega) hqg (.int .i64 (n1 : Int))) g 1 (by omega) hqg (.int .i64 (n2 : Int))) g 2 (by omega) hqg (.int .i64 (n3 : Int))) g 3 (by omega) hqg (.int .i64 (n4 : Int))) g 4 (by omega) hqg (.slice (some ⟨q, off + 8, none⟩) 32 (c - 8)))
          refine hK.out _ _ ?_ (fun hHeld => ?_)
          · exact hSF
          clear hK K
          try simp only [Act.put, List.setIfInBounds_toArray, List.set_cons_zero, List.set_cons_succ]
          refine wpAnyH_done (by kernel_rfl) ?_ _
          go_wp2_with fail
          go_meet
          exact ⟨g, rfl, hBF, hRF, by omega, hXF⟩
        · skip
          go_simp
          obtain ⟨g, hg⟩ : ∃ g, g = Wa.heap.size := ⟨_, rfl⟩
          rw [← hg]
          have hSan : (Wa.alloc (.cells #[.int .i64 0, .int .i64 0, .int .i64 0, .int .i64 0, .slice none 0 0] 61)).cell? ⟨w.heap.size, 0, none⟩ = some (.slice (some ⟨q, off, none⟩) 40 c) ∧ (Wa.alloc (.cells #[.int .i64 0, .int .i64 0, .int .i64 0, .int .i64 0, .slice none 0 0] 61)).cell? ⟨q, off, none⟩ = some (.int .u8 (n1 : Int)) ∧ (Wa.alloc (.cells #[.int .i64 0, .int .i64 0, .int .i64 0, .int .i64 0, .slice none 0 0] 61)).cell? ⟨q, off + 7, none⟩ = some (.int .u8 (n4 : Int)) ∧ Below w.heap.size w (Wa.alloc (.cells #[.int .i64 0, .int .i64 0, .int .i64 0, .int .i64 0, .slice none 0 0] 61)) := keepS hSa (by have := hlta; omega) hqs ((Below.refl _ _).alloc (Nat.le_refl _) _)
          have hRan : Blk (Wa.alloc (.cells #[.int .i64 0, .int .i64 0, .int .i64 0, .int .i64 0, .slice none 0 0] 61)) (w.heap.size + 1) 61 #[.int .i64 0, .int .i64 0, .int .i64 0, .int .i64 0, .slice none 0 0] := hRa.alloc _
          have hBan : Blk (Wa.alloc (.cells #[.int .i64 0, .int .i64 0, .int .i64 0, .int .i64 0, .slice none 0 0] 61)) g 61 #[.int .i64 0, .int .i64 0, .int .i64 0, .int .i64 0, .slice none 0 0] := by rw [hg]; exact heap_alloc_new Wa _
          have hgl : w.heap.size + 1 < g := by rw [hg]; exact hlta
          have hltan : w.heap.size + 1 < (Wa.alloc (.cells #[.int .i64 0, .int .i64 0, .int .i64 0, .int .i64 0, .slice none 0 0] 61)).heap.size := hRan.lt
          clear hg
          generalize Wa.alloc (.cells #[.int .i64 0, .int .i64 0, .int .i64 0, .int .i64 0, .slice none 0 0] 61) = Wan at *
          refine hK.out _ _ ?_ (fun hHeld => ?_)
          · exact hSan
          clear hK K
          try simp only [Act.put, List.setIfInBounds_toArray, List.set_cons_zero, List.set_cons_succ]
          refine step_alone 7 rfl (by kernel_rfl) (by rfl) (fun K hK => ?_)
          go_simp
          refine (three_any Wan F w.heap.size (some ⟨q, off, none⟩) c l 4 hSan.1 (Bytes.below hl hSan.2.2.2) H40.out (by omega)).mono ?_
          rintro e y ⟨rfl, manb, hy⟩
          rw [← HN3.out]
          have hSanb : y.cell? ⟨w.heap.size, 0, none⟩ = some (.slice (some ⟨q, off, none⟩) 40 c) ∧ y.cell? ⟨q, off, none⟩ = some (.int .u8 (n1 : Int)) ∧ y.cell? ⟨q, off + 7, none⟩ = some (.int .u8 (n4 : Int)) ∧ Below w.heap.size w y := by rw [hy]; exact keepS hSan (by have := hltan; omega) hqs (below_drewN (Below.refl _ _) manb)
          have hRanb : Blk y (w.heap.size + 1) 61 #[.int .i64 0, .int .i64 0, .int .i64 0, .int .i64 0, .slice none 0 0] := by rw [hy]; exact hRan.drewN manb
          have hltanb : w.heap.size + 1 < y.heap.size := hRanb.lt
          have hBanb : Blk y g 61 #[.int .i64 0, .int .i64 0, .int .i64 0, .int .i64 0, .slice none 0 0] := by rw [hy]; exact hBan.drewN manb
          clear hy
          obtain ⟨Wanb, rfl⟩ : ∃ z, z = y := ⟨_, rfl⟩
          go_simp
          refine hK.out _ _ ?_ (fun hHeld => ?_)
          · exact hSanb
          clear hK K
          try simp only [Act.put, List.setIfInBounds_toArray, List.set_cons_zero, List.set_cons_succ]
          refine step_take (i := 15) (v := ?_) rfl (by kernel_rfl) (by kernel_rfl) (by kernel_rfl) (fun _ _ _ h => h) (by rfl) ?yp15 (by assumption) ?_
          case yp15 => (intro w hSw; (try dsimp only at hSw); go_simp; (try with_reducible rfl))
          try simp only [Act.put, List.setIfInBounds_toArray, List.set_cons_zero, List.set_cons_succ]
          refine step_alone 17 rfl (by kernel_rfl) (by rfl) (fun K hK => ?_)
          have cc0 : Wanb.cell? ⟨g, 0, none⟩ = some (.int .i64 0) := hBanb.cell 0
          have cf0 : Wanb.frozen? ⟨g, 0, none⟩ = false := hBanb.frozen 0
          have cc1 : Wanb.cell? ⟨g, 1, none⟩ = some (.int .i64 0) := hBanb.cell 1
          have cf1 : Wanb.frozen? ⟨g, 1, none⟩ = false := hBanb.frozen 1
          have cc2 : Wanb.cell? ⟨g, 2, none⟩ = some (.int .i64 0) := hBanb.cell 2
          have cf2 : Wanb.frozen? ⟨g, 2, none⟩ = false := hBanb.frozen 2
          have cc3 : Wanb.cell? ⟨g, 3, none⟩ = some (.int .i64 0) := hBanb.cell 3
          have cf3 : Wanb.frozen? ⟨g, 3, none⟩ = false := hBanb.frozen 3
          have cc4 : Wanb.cell? ⟨g, 4, none⟩ = some (.slice none 0 0) := hBanb.cell 4
          have cf4 : Wanb.frozen? ⟨g, 4, none⟩ = false := hBanb.frozen 4
          go_simp
          have hBF : Blk (((((Wanb.setCell ⟨g, 0, none⟩ (.int .i64 (n1 : Int))).setCell ⟨g, 1, none⟩ (.int .i64 (n2 : Int))).setCell ⟨g, 2, none⟩ (.int .i64 (n3 : Int))).setCell ⟨g, 3, none⟩ (.int .i64 (n4 : Int))).setCell ⟨g, 4, none⟩ (.slice (some ⟨q, off + 8, none⟩) 32 (c - 8))) g 61 #[.int .i64 (n1 : Int), .int .i64 (n2 : Int), .int .i64 (n3 : Int), .int .i64 (n4 : Int), .slice (some ⟨q, off + 8, none⟩) 32 (c - 8)] := (((((hBanb.set_ 0 (.int .i64 (n1 : Int))).set_ 1 (.int .i64 (n2 : Int))).set_ 2 (.int .i64 (n3 : Int))).set_ 3 (.int .i64 (n4 : Int))).set_ 4 (.slice (some ⟨q, off + 8, none⟩) 32 (c - 8)))
          have hRF : Blk (((((Wanb.setCell ⟨g, 0, none⟩ (.int .i64 (n1 : Int))).setCell ⟨g, 1, none⟩ (.int .i64 (n2 : Int))).setCell ⟨g, 2, none⟩ (.int .i64 (n3 : Int))).setCell ⟨g, 3, none⟩ (.int .i64 (n4 : Int))).setCell ⟨g, 4, none⟩ (.slice (some ⟨q, off + 8, none⟩) 32 (c - 8))) (w.heap.size + 1) 61 #[.int .i64 0, .int .i64 0, .int .i64 0, .int .i64 0, .slice none 0 0] := by
            have hne : w.heap.size + 1 ≠ g := by omega
            exact ((((hRanb.far hne _).far hne _).far hne _).far hne _).far hne _
          have hXF : Below w.heap.size w (((((Wanb.setCell ⟨g, 0, none⟩ (.int .i64 (n1 : Int))).setCell ⟨g, 1, none⟩ (.int .i64 (n2 : Int))).setCell ⟨g, 2, none⟩ (.int .i64 (n3 : Int))).setCell ⟨g, 3, none⟩ (.int .i64 (n4 : Int))).setCell ⟨g, 4, none⟩ (.slice (some ⟨q, off + 8, none⟩) 32 (c - 8))) := (Below.setCell (p := ⟨g, 4, none⟩) (Below.setCell (p := ⟨g, 3, none⟩) (Below.setCell (p := ⟨g, 2, none⟩) (Below.setCell (p := ⟨g, 1, none⟩) (Below.setCell (p := ⟨g, 0, none⟩) hSanb.2.2.2 (by show w.heap.size ≤ g; omega) (.int .i64 (n1 : Int))) (by show w.heap.size ≤ g; omega) (.int .i64 (n2 : Int))) (by show w.heap.size ≤ g; omega) (.int .i64 (n3 : Int))) (by show w.heap.size ≤ g; omega) (.int .i64 (n4 : Int))) (by show w.heap.size ≤ g; omega) (.slice (some ⟨q, off + 8, none⟩) 32 (c - 8)))
          have hqg : q ≠ g := by omega
          have hSF : (((((Wanb.setCell ⟨g, 0, none⟩ (.int .i64 (n1 : Int))).setCell ⟨g, 1, none⟩ (.int .i64 (n2 : Int))).setCell ⟨g, 2, none⟩ (.int .i64 (n3 : Int))).setCell ⟨g, 3, none⟩ (.int .i64 (n4 : Int))).setCell ⟨g, 4, none⟩ (.slice (some ⟨q, off + 8, none⟩) 32 (c - 8))).cell? ⟨w.heap.size, 0, none⟩ = some (.slice (some ⟨q, off, none⟩) 40 c) ∧ (((((Wanb.setCell ⟨g, 0, none⟩ (.int .i64 (n1 : Int))).setCell ⟨g, 1, none⟩ (.int .i64 (n2 : Int))).setCell ⟨g, 2, none⟩ (.int .i64 (n3 : Int))).setCell ⟨g, 3, none⟩ (.int .i64 (n4 : Int))).setCell ⟨g, 4, none⟩ (.slice (some ⟨q, off + 8, none⟩) 32 (c - 8))).cell? ⟨q, off, none⟩ = some (.int .u8 (n1 : Int)) ∧ (((((Wanb.setCell ⟨g, 0, none⟩ (.int .i64 (n1 : Int))).setCell ⟨g, 1, none⟩ (.int .i64 (n2 : Int))).setCell ⟨g, 2, none⟩ (.int .i64 (n3 : Int))).setCell ⟨g, 3, none⟩ (.int .i64 (n4 : Int))).setCell ⟨g, 4, none⟩ (.slice (some ⟨q, off + 8, none⟩) 32 (c - 8))).cell? ⟨q, off + 7, none⟩ = some (.int .u8 (n4 : Int)) ∧ Below w.heap.size w (((((Wanb.setCell ⟨g, 0, none⟩ (.int .i64 (n1 : Int))).setCell ⟨g, 1, none⟩ (.int .i64 (n2 : Int))).setCell ⟨g, 2, none⟩ (.int .i64 (n3 : Int))).setCell ⟨g, 3, none⟩ (.int .i64 (n4 : Int))).setCell ⟨g, 4, none⟩ (.slice (some ⟨q, off + 8, none⟩) 32 (c - 8))) := (keepSet (keepSet (keepSet (keepSet (keepSet hSanb g 0 (by omega) hqg (.int .i64 (n1 : Int))) g 1 (by omega) hqg (.int .i64 (n2 : Int))) g 2 (by omega) hqg (.int .i64 (n3 : Int))) g 3 (by omega) hqg (.int .i64 (n4 : Int))) g 4 (by omega) hqg (.slice (some ⟨q, off + 8, none⟩) 32 (c - 8)))
          refine hK.out _ _ ?_ (fun hHeld => ?_)
          · exact hSF
          clear hK K
          try simp only [Act.put, List.setIfInBounds_toArray, List.set_cons_zero, List.set_cons_succ]
          refine wpAnyH_done (by kernel_rfl) ?_ _
          go_wp2_with fail
          go_meet
          exact ⟨g, rfl, hBF, hRF, by omega, hXF⟩
      · skip
        go_simp
        obtain ⟨g, hg⟩ : ∃ g, g = W.heap.size := ⟨_, rfl⟩
        rw [← hg]
        have hSn : (W.alloc (.cells #[.int .i64 0, .int .i64 0, .int .i64 0, .int .i64 0, .slice none 0 0] 61)).cell? ⟨w.heap.size, 0, none⟩ = some (.slice (some ⟨q, off, none⟩) 40 c) ∧ (W.alloc (.cells #[.int .i64 0, .int .i64 0, .int .i64 0, .int .i64 0, .slice none 0 0] 61)).cell? ⟨q, off, none⟩ = some (.int .u8 (n1 : Int)) ∧ (W.alloc (.cells #[.int .i64 0, .int .i64 0, .int .i64 0, .int .i64 0, .slice none 0 0] 61)).cell? ⟨q, off + 7, none⟩ = some (.int .u8 (n4 : Int)) ∧ Below w.heap.size w (W.alloc (.cells #[.int .i64 0, .int .i64 0, .int .i64 0, .int .i64 0, .slice none 0 0] 61)) := keepS hS0 (by have := hlt0; omega) hqs ((Below.refl _ _).alloc (Nat.le_refl _) _)
        have hRn : Blk (W.alloc (.cells #[.int .i64 0, .int .i64 0, .int .i64 0, .int .i64 0, .slice none 0 0] 61)) (w.heap.size + 1) 61 #[.int .i64 0, .int .i64 0, .int .i64 0, .int .i64 0, .slice none 0 0] := hR0.alloc _
        have hBn : Blk (W.alloc (.cells #[.int .i64 0, .int .i64 0, .int .i64 0, .int .i64 0, .slice none 0 0] 61)) g 61 #[.int .i64 0, .int .i64 0, .int .i64 0, .int .i64 0, .slice none 0 0] := by rw [hg]; exact heap_alloc_new W _
        have hgl : w.heap.size + 1 < g := by rw [hg]; exact hlt0
        have hltn : w.heap.size + 1 < (W.alloc (.cells #[.int .i64 0, .int .i64 0, .int .i64 0, .int .i64 0, .slice none 0 0] 61)).heap.size := hRn.lt
        clear hg
        generalize W.alloc (.cells #[.int .i64 0, .int .i64 0, .int .i64 0, .int .i64 0, .slice none 0 0] 61) = Wn at *
        refine hK.out _ _ ?_ (fun hHeld => ?_)
        · exact hSn
        clear hK K
        try simp only [Act.put, List.setIfInBounds_toArray, List.set_cons_zero, List.set_cons_succ]
        refine step_alone 5 rfl (by kernel_rfl) (by rfl) (fun K hK => ?_)
        go_simp
        refine (three_any Wn F w.heap.size (some ⟨q, off, none⟩) c l 1 hSn.1 (Bytes.below hl hSn.2.2.2) H40.out (by omega)).mono ?_
        rintro e y ⟨rfl, mna, hy⟩
        rw [← HN2.out]
        have hSna : y.cell? ⟨w.heap.size, 0, none⟩ = some (.slice (some ⟨q, off, none⟩) 40 c) ∧ y.cell? ⟨q, off, none⟩ = some (.int .u8 (n1 : Int)) ∧ y.cell? ⟨q, off + 7, none⟩ = some (.int .u8 (n4 : Int)) ∧ Below w.heap.size w y := by rw [hy]; exact keepS hSn (by have := hltn; omega) hqs (below_drewN (Below.refl _ _) mna)
        have hRna : Blk y (w.heap.size + 1) 61 #[.int .i64 0, .int .i64 0, .int .i64 0, .int .i64 0, .slice none 0 0] := by rw [hy]; exact hRn.drewN mna
        have hltna : w.heap.size + 1 < y.heap.size := hRna.lt
        have hBna : Blk y g 61 #[.int .i64 0, .int .i64 0, .int .i64 0, .int .i64 0, .slice none 0 0] := by rw [hy]; exact hBn.drewN mna
        clear hy
        obtain ⟨Wna, rfl⟩ : ∃ z, z = y := ⟨_, rfl⟩
        go_simp
        refine hK.out _ _ ?_ (fun hHeld => ?_)
        · exact hSna
        clear hK K
        try simp only [Act.put, List.setIfInBounds_toArray, List.set_cons_zero, List.set_cons_succ]
        refine step_alone 7 rfl (by kernel_rfl) (by rfl) (fun K hK => ?_)
        go_simp
        refine (three_any Wna F w.heap.size (some ⟨q, off, none⟩) c l 4 hSna.1 (Bytes.below hl hSna.2.2.2) H40.out (by omega)).mono ?_
        rintro e y ⟨rfl, mnab, hy⟩
        rw [← HN3.out]
        have hSnab : y.cell? ⟨w.heap.size, 0, none⟩ = some (.slice (some ⟨q, off, none⟩) 40 c) ∧ y.cell? ⟨q, off, none⟩ = some (.int .u8 (n1 : Int)) ∧ y.cell? ⟨q, off + 7, none⟩ = some (.int .u8 (n4 : Int)) ∧ Below w.heap.size w y := by rw [hy]; exact keepS hSna (by have := hltna; omega) hqs (below_drewN (Below.refl _ _) mnab)
        have hRnab : Blk y (w.heap.size + 1) 61 #[.int .i64 0, .int .i64 0, .int .i64 0, .int .i64 0, .slice none 0 0] := by rw [hy]; exact hRna.drewN mnab
        have hltnab : w.heap.size + 1 < y.heap.size := hRnab.lt
        have hBnab : Blk y g 61 #[.int .i64 0, .int .i64 0, .int .i64 0, .int .i64 0, .slice none 0 0] := by rw [hy]; exact hBna.drewN mnab
        clear hy
        obtain ⟨Wnab, rfl⟩ : ∃ z, z = y := ⟨_, rfl⟩
        go_simp
        refine hK.out _ _ ?_ (fun hHeld => ?_)
        · exact hSnab
        clear hK K
        try simp only [Act.put, List.setIfInBounds_toArray, List.set_cons_zero, List.set_cons_succ]
        refine step_take (i := 15) (v := ?_) rfl (by kernel_rfl) (by kernel_rfl) (by kernel_rfl) (fun _ _ _ h => h) (by rfl) ?yp16 (by assumption) ?_
        case yp16 => (intro w hSw; (try dsimp only at hSw); go_simp; (try with_reducible rfl))
        try simp only [Act.put, List.setIfInBounds_toArray, List.set_cons_zero, List.set_cons_succ]
        refine step_alone 17 rfl (by kernel_rfl) (by rfl) (fun K hK => ?_)
        have cc0 : Wnab.cell? ⟨g, 0, none⟩ = some (.int .i64 0) := hBnab.cell 0
        have cf0 : Wnab.frozen? ⟨g, 0, none⟩ = false := hBnab.frozen 0
        have cc1 : Wnab.cell? ⟨g, 1, none⟩ = some (.int .i64 0) := hBnab.cell 1
        have cf1 : Wnab.frozen? ⟨g, 1, none⟩ = false := hBnab.frozen 1
        have cc2 : Wnab.cell? ⟨g, 2, none⟩ = some (.int .i64 0) := hBnab.cell 2
        have cf2 : Wnab.frozen? ⟨g, 2, none⟩ = false := hBnab.frozen 2
        have cc3 : Wnab.cell? ⟨g, 3, none⟩ = some (.int .i64 0) := hBnab.cell 3
        have cf3 : Wnab.frozen? ⟨g, 3, none⟩ = false := hBnab.frozen 3
        have cc4 : Wnab.cell? ⟨g, 4, none⟩ = some (.slice none 0 0) := hBnab.cell 4
        have cf4 : Wnab.frozen? ⟨g, 4, none⟩ = false := hBnab.frozen 4
        go_simp
        have hBF : Blk (((((Wnab.setCell ⟨g, 0, none⟩ (.int .i64 (n1 : Int))).setCell ⟨g, 1, none⟩ (.int .i64 (n2 : Int))).setCell ⟨g, 2, none⟩ (.int .i64 (n3 : Int))).setCell ⟨g, 3, none⟩ (.int .i64 (n4 : Int))).setCell ⟨g, 4, none⟩ (.slice (some ⟨q, off + 8, none⟩) 32 (c - 8))) g 61 #[.int .i64 (n1 : Int), .int .i64 (n2 : Int), .int .i64 (n3 : Int), .int .i64 (n4 : Int), .slice (some ⟨q, off + 8, none⟩) 32 (c - 8)] := (((((hBnab.set_ 0 (.int .i64 (n1 : Int))).set_ 1 (.int .i64 (n2 : Int))).set_ 2 (.int .i64 (n3 : Int))).set_ 3 (.int .i64 (n4 : Int))).set_ 4 (.slice (some ⟨q, off + 8, none⟩) 32 (c - 8)))
        have hRF : Blk (((((Wnab.setCell ⟨g, 0, none⟩ (.int .i64 (n1 : Int))).setCell ⟨g, 1, none⟩ (.int .i64 (n2 : Int))).setCell ⟨g, 2, none⟩ (.int .i64 (n3 : Int))).setCell ⟨g, 3, none⟩ (.int .i64 (n4 : Int))).setCell ⟨g, 4, none⟩ (.slice (some ⟨q, off + 8, none⟩) 32 (c - 8))) (w.heap.size + 1) 61 #[.int .i64 0, .int .i64 0, .int .i64 0, .int .i64 0, .slice none 0 0] := by
          have hne : w.heap.size + 1 ≠ g := by omega
          exact ((((hRnab.far hne _).far hne _).far hne _).far hne _).far hne _
        have hXF : Below w.heap.size w (((((Wnab.setCell ⟨g, 0, none⟩ (.int .i64 (n1 : Int))).setCell ⟨g, 1, none⟩ (.int .i64 (n2 : Int))).setCell ⟨g, 2, none⟩ (.int .i64 (n3 : Int))).setCell ⟨g, 3, none⟩ (.int .i64 (n4 : Int))).setCell ⟨g, 4, none⟩ (.slice (some ⟨q, off + 8, none⟩) 32 (c - 8))) := (Below.setCell (p := ⟨g, 4, none⟩) (Below.setCell (p := ⟨g, 3, none⟩) (Below.setCell (p := ⟨g, 2, none⟩) (Below.setCell (p := ⟨g, 1, none⟩) (Below.setCell (p := ⟨g, 0, none⟩) hSnab.2.2.2 (by show w.heap.size ≤ g; omega) (.int .i64 (n1 : Int))) (by show w.heap.size ≤ g; omega) (.int .i64 (n2 : Int))) (by show w.heap.size ≤ g; omega) (.int .i64 (n3 : Int))) (by show w.heap.size ≤ g; omega) (.int .i64 (n4 : Int))) (by show w.heap.size ≤ g; omega) (.slice (some ⟨q, off + 8, none⟩) 32 (c - 8)))
        have hqg : q ≠ g := by omega
        have hSF : (((((Wnab.setCell ⟨g, 0, none⟩ (.int .i64 (n1 : Int))).setCell ⟨g, 1, none⟩ (.int .i64 (n2 : Int))).setCell ⟨g, 2, none⟩ (.int .i64 (n3 : Int))).setCell ⟨g, 3, none⟩ (.int .i64 (n4 : Int))).setCell ⟨g, 4, none⟩ (.slice (some ⟨q, off + 8, none⟩) 32 (c - 8))).cell? ⟨w.heap.size, 0, none⟩ = some (.slice (some ⟨q, off, none⟩) 40 c) ∧ (((((Wnab.setCell ⟨g, 0, none⟩ (.int .i64 (n1 : Int))).setCell ⟨g, 1, none⟩ (.int .i64 (n2 : Int))).setCell ⟨g, 2, none⟩ (.int .i64 (n3 : Int))).setCell ⟨g, 3, none⟩ (.int .i64 (n4 : Int))).setCell ⟨g, 4, none⟩ (.slice (some ⟨q, off + 8, none⟩) 32 (c - 8))).cell? ⟨q, off, none⟩ = some (.int .u8 (n1 : Int)) ∧ (((((Wnab.setCell ⟨g, 0, none⟩ (.int .i64 (n1 : Int))).setCell ⟨g, 1, none⟩ (.int .i64 (n2 : Int))).setCell ⟨g, 2, none⟩ (.int .i64 (n3 : Int))).setCell ⟨g, 3, none⟩ (.int .i64 (n4 : Int))).setCell ⟨g, 4, none⟩ (.slice (some ⟨q, off + 8, none⟩) 32 (c - 8))).cell? ⟨q, off + 7, none⟩ = some (.int .u8 (n4 : Int)) ∧ Below w.heap.size w (((((Wnab.setCell ⟨g, 0, none⟩ (.int .i64 (n1 : Int))).setCell ⟨g, 1, none⟩ (.int .i64 (n2 : Int))).setCell ⟨g, 2, none⟩ (.int .i64 (n3 : Int))).setCell ⟨g, 3, none⟩ (.int .i64 (n4 : Int))).setCell ⟨g, 4, none⟩ (.slice (some ⟨q, off + 8, none⟩) 32 (c - 8))) := (keepSet (keepSet (keepSet (keepSet (keepSet hSnab g 0 (by omega) hqg (.int .i64 (n1 : Int))) g 1 (by omega) hqg (.int .i64 (n2 : Int))) g 2 (by omega) hqg (.int .i64 (n3 : Int))) g 3 (by omega) hqg (.int .i64 (n4 : Int))) g 4 (by omega) hqg (.slice (some ⟨q, off + 8, none⟩) 32 (c - 8)))
        refine hK.out _ _ ?_ (fun hHeld => ?_)
        · exact hSF
        clear hK K
        try simp only [Act.put, List.setIfInBounds_toArray, List.set_cons_zero, List.set_cons_succ]
        refine wpAnyH_done (by kernel_rfl) ?_ _
        go_wp2_with fail
        go_meet
        exact ⟨g, rfl, hBF, hRF, by omega, hXF⟩
    case rest =>
      obtain ⟨g, rfl, hB, hR, hne, hx⟩ := hcut
      clear HN1 HN2 HN3 HN4 hS0 hR0 hlt0
      generalize l.drop 8 = root at *
      have e0 : wc.cell? ⟨g, 0, none⟩ = some (.int .i64 (n1 : Int)) := hB.cell 0
      have e1 : wc.cell? ⟨g, 1, none⟩ = some (.int .i64 (n2 : Int)) := hB.cell 1
      have e2 : wc.cell? ⟨g, 2, none⟩ = some (.int .i64 (n3 : Int)) := hB.cell 2
      have e3 : wc.cell? ⟨g, 3, none⟩ = some (.int .i64 (n4 : Int)) := hB.cell 3
      have e4 : wc.cell? ⟨g, 4, none⟩ = some (.slice (some ⟨q, off + 8, none⟩) 32 (c - 8)) := hB.cell 4
      go_wp2_with fail
      refine (rwrongR_any32 wc (n1 : Int) (n2 : Int) (n3 : Int) (n4 : Int) (some ⟨q, off + 8, none⟩) (c - 8) root HL8.out).mono ?_
      rw [← HWP.out]
      obtain ⟨x, HX⟩ : ∃ x, Hid (x = Bk.wrongP l) := ⟨_, Lib.hid rfl⟩
      rw [← HX.out]
      rintro e w5 ⟨rfl, hx5⟩
      have hB5 := hB.below hx5 hB.lt
      have hR5 := hR.below hx5 hR.lt
      have hxg := hx.trans (hx5.mono hx.size)
      clear e0 e1 e2 e3 e4
      have e0 : w5.cell? ⟨g, 0, none⟩ = some (.int .i64 (n1 : Int)) := hB5.cell 0
      have e1 : w5.cell? ⟨g, 1, none⟩ = some (.int .i64 (n2 : Int)) := hB5.cell 1
      have e2 : w5.cell? ⟨g, 2, none⟩ = some (.int .i64 (n3 : Int)) := hB5.cell 2
      have e3 : w5.cell? ⟨g, 3, none⟩ = some (.int .i64 (n4 : Int)) := hB5.cell 3
      have e4 : w5.cell? ⟨g, 4, none⟩ = some (.slice (some ⟨q, off + 8, none⟩) 32 (c - 8)) := hB5.cell 4
      have r0 : w5.cell? ⟨w.heap.size + 1, 0, none⟩ = some (.int .i64 0) := hR5.cell 0
      have r1 : w5.cell? ⟨w.heap.size + 1, 1, none⟩ = some (.int .i64 0) := hR5.cell 1
      have r2 : w5.cell? ⟨w.heap.size + 1, 2, none⟩ = some (.int .i64 0) := hR5.cell 2
      have r3 : w5.cell? ⟨w.heap.size + 1, 3, none⟩ = some (.int .i64 0) := hR5.cell 3
      have r4 : w5.cell? ⟨w.heap.size + 1, 4, none⟩ = some (.slice none 0 0) := hR5.cell 4
      have f0 := hR5.frozen 0
      have f1 := hR5.frozen 1
      have f2 := hR5.frozen 2
      have f3 := hR5.frozen 3
      have f4 := hR5.frozen 4
      by_cases hx0 : x = 0
      · have hp := HPR.out
        rw [← HX.out, if_pos hx0] at hp
        have HP := Lib.hid hp
        have hb : ((x : Int) != 0) = false := by rw [hx0]; rfl
        have HX0 := Lib.hid hx0
        clear hp hx0
        go_wp2_with fail
        obtain ⟨W, hW⟩ : ∃ z : World, z = (((((w5.setCell ⟨w.heap.size + 1, 0, none⟩ (.int .i64 (n1 : Int))).setCell ⟨w.heap.size + 1, 1, none⟩ (.int .i64 (n2 : Int))).setCell ⟨w.heap.size + 1, 2, none⟩ (.int .i64 (n3 : Int))).setCell ⟨w.heap.size + 1, 3, none⟩ (.int .i64 (n4 : Int))).setCell ⟨w.heap.size + 1, 4, none⟩ (.slice (some ⟨q, off + 8, none⟩) 32 (c - 8))) := ⟨_, rfl⟩
        rw [← hW]
        have sB : Blk W (w.heap.size + 1) 61 #[.int .i64 (n1 : Int), .int .i64 (n2 : Int), .int .i64 (n3 : Int), .int .i64 (n4 : Int), .slice (some ⟨q, off + 8, none⟩) 32 (c - 8)] := by rw [hW]; exact (((((hR5.set_ 0 (.int .i64 (n1 : Int))).set_ 1 (.int .i64 (n2 : Int))).set_ 2 (.int .i64 (n3 : Int))).set_ 3 (.int .i64 (n4 : Int))).set_ 4 (.slice (some ⟨q, off + 8, none⟩) 32 (c - 8)))
        have sX : Below w.heap.size w W := by rw [hW]; exact (((((hxg.setCell (p := ⟨w.heap.size + 1, 0, none⟩) (Nat.le_succ _) (.int .i64 (n1 : Int))).setCell (p := ⟨w.heap.size + 1, 1, none⟩) (Nat.le_succ _) (.int .i64 (n2 : Int))).setCell (p := ⟨w.heap.size + 1, 2, none⟩) (Nat.le_succ _) (.int .i64 (n3 : Int))).setCell (p := ⟨w.heap.size + 1, 3, none⟩) (Nat.le_succ _) (.int .i64 (n4 : Int))).setCell (p := ⟨w.heap.size + 1, 4, none⟩) (Nat.le_succ _) (.slice (some ⟨q, off + 8, none⟩) 32 (c - 8)))
        have HW := Lib.hid hW
        clear hW
        have sc0 : W.cell? ⟨w.heap.size + 1, 0, none⟩ = some (.int .i64 (n1 : Int)) := sB.cell 0
        have sc1 : W.cell? ⟨w.heap.size + 1, 1, none⟩ = some (.int .i64 (n2 : Int)) := sB.cell 1
        have sc2 : W.cell? ⟨w.heap.size + 1, 2, none⟩ = some (.int .i64 (n3 : Int)) := sB.cell 2
        have sc3 : W.cell? ⟨w.heap.size + 1, 3, none⟩ = some (.int .i64 (n4 : Int)) := sB.cell 3
        have sc4 : W.cell? ⟨w.heap.size + 1, 4, none⟩ = some (.slice (some ⟨q, off + 8, none⟩) 32 (c - 8)) := sB.cell 4
        refine bodyPost_ret (v := .tuple #[.agg #[.int .i64 (n1 : Int), .int .i64 (n2 : Int), .int .i64 (n3 : Int), .int .i64 (n4 : Int), .slice (some ⟨q, off + 8, none⟩) 32 (c - 8)], .int .i64 (x : Int)]) (by simp [results, Try.results52, go_sem, sc0, sc1, sc2, sc3, sc4, HX0.out]) rfl ⟨.slice (some ⟨q, off + 8, none⟩) 32 (c - 8), ?_, ?_, sX⟩
        · rw [HP.out, ← HX.out]; rfl
        · rw [HP.out]; unfold Bytes; show SlAt W F 1 _ root.length (root.map bv); rw [HL8.out]; exact SlAt.below s5' sX
      · have hp := HPR.out
        rw [← HX.out, if_neg hx0] at hp
        have HP := Lib.hid hp
        have hb : ((x : Int) != 0) = true := by rw [bne_iff_ne]; omega
        clear hp hx0
        go_wp2_with fail
        obtain ⟨W, hW⟩ : ∃ z : World, z = (((((w5.setCell ⟨w.heap.size + 1, 0, none⟩ (.int .i64 0)).setCell ⟨w.heap.size + 1, 1, none⟩ (.int .i64 0)).setCell ⟨w.heap.size + 1, 2, none⟩ (.int .i64 0)).setCell ⟨w.heap.size + 1, 3, none⟩ (.int .i64 0)).setCell ⟨w.heap.size + 1, 4, none⟩ (.slice none 0 0)) := ⟨_, rfl⟩
        rw [← hW]
        have sB : Blk W (w.heap.size + 1) 61 #[.int .i64 0, .int .i64 0, .int .i64 0, .int .i64 0, .slice none 0 0] := by rw [hW]; exact (((((hR5.set_ 0 (.int .i64 0)).set_ 1 (.int .i64 0)).set_ 2 (.int .i64 0)).set_ 3 (.int .i64 0)).set_ 4 (.slice none 0 0))
        have sX : Below w.heap.size w W := by rw [hW]; exact (((((hxg.setCell (p := ⟨w.heap.size + 1, 0, none⟩) (Nat.le_succ _) (.int .i64 0)).setCell (p := ⟨w.heap.size + 1, 1, none⟩) (Nat.le_succ _) (.int .i64 0)).setCell (p := ⟨w.heap.size + 1, 2, none⟩) (Nat.le_succ _) (.int .i64 0)).setCell (p := ⟨w.heap.size + 1, 3, none⟩) (Nat.le_succ _) (.int .i64 0)).setCell (p := ⟨w.heap.size + 1, 4, none⟩) (Nat.le_succ _) (.slice none 0 0))
        have HW := Lib.hid hW
        clear hW
        have sc0 : W.cell? ⟨w.heap.size + 1, 0, none⟩ = some (.int .i64 0) := sB.cell 0
        have sc1 : W.cell? ⟨w.heap.size + 1, 1, none⟩ = some (.int .i64 0) := sB.cell 1
        have sc2 : W.cell? ⟨w.heap.size + 1, 2, none⟩ = some (.int .i64 0) := sB.cell 2
        have sc3 : W.cell? ⟨w.heap.size + 1, 3, none⟩ = some (.int .i64 0) := sB.cell 3
        have sc4 : W.cell? ⟨w.heap.size + 1, 4, none⟩ = some (.slice none 0 0) := sB.cell 4
        refine bodyPost_ret (v := .tuple #[.agg #[.int .i64 0, .int .i64 0, .int .i64 0, .int .i64 0, .slice none 0 0], .int .i64 (x : Int)]) (by simp [results, Try.results52, go_sem, sc0, sc1, sc2, sc3, sc4]) rfl ⟨.slice none 0 0, ?_, ?_, sX⟩
        · rw [HP.out, ← HX.out]; rfl
        · rw [HP.out]; exact SlAt.nil_ _ _ _
  · have hB : ((l.length : Int) != 40) = true := by rw [bne_iff_ne]; omega
    have hwp : Bk.wrongP l = 2 := by unfold Bk.wrongP; rw [if_pos h40]
    have hpr : Bk.parseR l = Bk.zeroR := by unfold Bk.parseR; rw [hwp, if_neg (by decide)]
    unfold RowPost
    rw [hwp, hpr]
    clear hwp hpr h40
    go_enter Try.func52, Try.ntmps52
    go_wp2_with fail
    rw [← HW2.out]
    have r0 : w2.cell? ⟨w.heap.size + 1, 0, none⟩ = some (.int .i64 0) := hR0.cell 0
    have r1 : w2.cell? ⟨w.heap.size + 1, 1, none⟩ = some (.int .i64 0) := hR0.cell 1
    have r2 : w2.cell? ⟨w.heap.size + 1, 2, none⟩ = some (.int .i64 0) := hR0.cell 2
    have r3 : w2.cell? ⟨w.heap.size + 1, 3, none⟩ = some (.int .i64 0) := hR0.cell 3
    have r4 : w2.cell? ⟨w.heap.size + 1, 4, none⟩ = some (.slice none 0 0) := hR0.cell 4
    refine bodyPost_ret (v := .tuple #[.agg #[.int .i64 0, .int .i64 0, .int .i64 0, .int .i64 0, .slice none 0 0], .int .i64 2]) (by simp [results, Try.results52, go_sem, r0, r1, r2, r3, r4]) rfl ⟨_, rfl, SlAt.nil_ _ _ _, hx0⟩
end Go.Proofs.Ytfdibjgmbdkbcaa
