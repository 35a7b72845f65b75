/-
  THE WALKS of tree.Root, Path, Grows. Conditions: what is read is a list of bytes.
-/
import Derived.Test.YtfdibjgmbdkbcaaTreeE
namespace Go.Proofs.Ytfdibjgmbdkbcaa
open Go.RowKit Go.Lib

theorem Fine.short {ll : List Bs} (h : Fine ll) : Short ll := fun b hb => by have := h.2 b hb; omega
theorem short_leaves (ll : List Bs) : Short (ll.map Tr.leafH) := fun b hb => by
  obtain ⟨x, _, rfl⟩ := List.mem_map.1 hb
  rw [Tr.length_leafH]; omega

theorem OwnL.setBlk {w : World} {B g : Nat} {v : Value} {ll : List Bs} {t : TypeId} {cs : Array Value} (h : OwnL w B v ll) (hg : Blk w g t cs) (h1 : 5 ≠ t) (h2 : 22 ≠ t) (i : Nat) (u : Value) : OwnL (w.setCell ⟨g, i, none⟩ u) B v ll := by
  obtain ⟨vs, ho, hin⟩ := h
  refine ⟨vs, ho.setCell (p := ⟨g, i, none⟩) (ho.ne_blk hg h2) u, fun j b hb => ?_⟩
  obtain ⟨x, hx, hb⟩ := hin j b hb
  exact ⟨x, hx, Own.setCell (p := ⟨g, i, none⟩) hb (Own.ne_blk hb hg h1) u⟩

set_option maxRecDepth 100000 in
set_option maxHeartbeats 1000000 in
theorem Root_any (w : World) (F : Nat → Prop) (v : Value) (ll : List Bs) (hl : BList w F v ll) :
    Calls Try.prog 40 #[v] w fun e w' => ∃ rv, e = .returned (.tuple #[rv, fv (wrongS ll)]) ∧ (Fine ll → OwnB w' w.heap.size rv (Tr.root (ll.map Tr.leafH))) ∧ (¬ Fine ll → rv = .slice none 0 0) ∧ Below w.heap.size w w' := by
  obtain ⟨A, c, hv, hnc, hcm, _⟩ := hl.shape
  subst hv
  have hok := wrongS_ok ll
  have hze := wrongS_zero ll
  have hx0 : Below w.heap.size w (w.alloc (.cells #[.int .i64 0, .int .i64 0] 32)) := (Below.refl _ _).alloc (Nat.le_refl _) _
  have hl0 := hl.alloc (.cells #[.int .i64 0, .int .i64 0] 32)
  have hw := wrong_any _ F _ ll hl0
  have hle := wrongS_le ll
  generalize wrongS ll = p at *
  obtain ⟨a, b⟩ := p
  dsimp only at hok hle
  have HOK := Lib.hid hok
  have HZ := Lib.hid hze
  have HW := Lib.hid hw
  clear hok hze hw
  go_enter Try.func40, Try.ntmps40
  go_wp2_with fail
  refine HW.out.mono ?_
  rintro e w1 ⟨rfl, hx1⟩
  unfold fv
  dsimp only
  have hxa := hx0.trans (hx1.mono hx0.size)
  have hs1 := hxa.size
  have hc0 : w1.cell? ⟨w.heap.size, 0, none⟩ = some (.int .i64 0) := (hx1.cell (p := ⟨w.heap.size, 0, none⟩) (by simp)).trans (by rw [World.cell?_alloc_mark]; rfl)
  have hc1 : w1.cell? ⟨w.heap.size, 1, none⟩ = some (.int .i64 0) := (hx1.cell (p := ⟨w.heap.size, 1, none⟩) (by simp)).trans (by rw [World.cell?_alloc_mark]; rfl)
  by_cases h0 : a = 0
  · have hB : ((a : Int) != 0) = false := by rw [bne_eq_false_iff_eq]; omega
    have hfine : Fine ll := HOK.out.1 h0
    have hz := HZ.out h0
    simp only [Prod.mk.injEq] at hz
    obtain ⟨rfl, rfl⟩ := hz
    have hxb := hxa.alloc hs1 (.cells #[.int .i64 0, .int .i64 0] 32)
    have hb1 : Blk w1 w.heap.size 32 #[.int .i64 0, .int .i64 0] := Blk.keep (heap_alloc_new w _) (hx1.block _ (by simp))
    have hb2 := hb1.alloc (.cells #[.int .i64 0, .int .i64 0] 32)
    have hlt : w.heap.size < w1.heap.size := by have := hx1.size; simp at this; omega
    have hl2 := (hl.below hxa).alloc (.cells #[.int .i64 0, .int .i64 0] 32)
    clear h0
    go_wp2_with fail
    refine (leaves_any _ _ _ ll hl2 (by have := hfine.1; omega) (fun b hb => by have := hfine.2 b hb; omega)).mono ?_
    rintro e w3 ⟨v3, rfl, hown3, hx3⟩
    have hb3 := hb2.below hx3 (by simp; omega)
    have hxc := hxb.trans (hx3.mono hxb.size)
    go_wp2_with fail
    refine (root_tree ll.length w3 _ v3 (ll.map Tr.leafH) hown3.blist (by simp) (by have := hfine.1; omega) (short_leaves ll)).mono ?_
    rintro e w4 ⟨v4, rfl, hown4, hx4⟩
    have hb4 := hb3.below hx4 (by have := hxc.size; have := hx3.size; simp at this; omega)
    have hxd := hxc.trans (hx4.mono hxc.size)
    have e0 : w4.cell? ⟨w.heap.size, 0, none⟩ = some (.int .i64 0) := hb4.cell 0
    have e1 : w4.cell? ⟨w.heap.size, 1, none⟩ = some (.int .i64 0) := hb4.cell 1
    have f0 := hb4.frozen 0
    have f1 := hb4.frozen 1
    go_wp2_with fail
    have hne := Own.ne_blk hown4 hb4 (by decide)
    have hb5 := (hb4.set_ 0 (.int .i64 0)).set_ 1 (.int .i64 0)
    have ho5 := (Own.setCell (p := ⟨w.heap.size, 0, none⟩) (OwnB.mono hown4 hxc.size) hne (.int .i64 0)).setCell (p := ⟨w.heap.size, 1, none⟩) hne (.int .i64 0)
    have hxe := (hxd.setCell (p := ⟨w.heap.size, 0, none⟩) (Nat.le_refl _) (.int .i64 0)).setCell (p := ⟨w.heap.size, 1, none⟩) (Nat.le_refl _) (.int .i64 0)
    generalize (w4.setCell ⟨w.heap.size, 0, none⟩ (.int .i64 0)).setCell ⟨w.heap.size, 1, none⟩ (.int .i64 0) = w5 at *
    have e4 : w5.cell? ⟨w.heap.size, 0, none⟩ = some (.int .i64 0) := hb5.cell 0
    have e5 : w5.cell? ⟨w.heap.size, 1, none⟩ = some (.int .i64 0) := hb5.cell 1
    exact bodyPost_ret (v := .tuple #[v4, .agg #[.int .i64 0, .int .i64 0]]) (by simp [results, Try.results40, go_sem, e4, e5]) rfl ⟨_, rfl, fun _ => ho5, fun h => absurd hfine h, hxe⟩
  · have hB : ((a : Int) != 0) = true := by rw [bne_iff_ne]; omega
    go_wp2_with fail
    have hxb := hxa.alloc hs1 (.cells #[.int .i64 (a : Int), .int .i64 (b : Int)] 32)
    have hb1 : Blk w1 w.heap.size 32 #[.int .i64 0, .int .i64 0] := Blk.keep (heap_alloc_new w _) (hx1.block _ (by simp))
    have hb2 := hb1.alloc (.cells #[.int .i64 (a : Int), .int .i64 (b : Int)] 32)
    have hb3 : Blk (w1.alloc (.cells #[.int .i64 (a : Int), .int .i64 (b : Int)] 32)) w1.heap.size 32 #[.int .i64 (a : Int), .int .i64 (b : Int)] := heap_alloc_new w1 _
    have hlt : w.heap.size < w1.heap.size := by have := hx1.size; simp at this; omega
    generalize (w1.alloc (.cells #[.int .i64 (a : Int), .int .i64 (b : Int)] 32)) = w2 at *
    have e0 : w2.cell? ⟨w.heap.size, 0, none⟩ = some (.int .i64 0) := hb2.cell 0
    have e1 : w2.cell? ⟨w.heap.size, 1, none⟩ = some (.int .i64 0) := hb2.cell 1
    have f0 := hb2.frozen 0
    have f1 := hb2.frozen 1
    have e2 : w2.cell? ⟨w1.heap.size, 0, none⟩ = some (.int .i64 (a : Int)) := hb3.cell 0
    have e3 : w2.cell? ⟨w1.heap.size, 1, none⟩ = some (.int .i64 (b : Int)) := hb3.cell 1
    have hb4 : Blk ((w2.setCell ⟨w.heap.size, 0, none⟩ (.int .i64 (a : Int))).setCell ⟨w.heap.size, 1, none⟩ (.int .i64 (b : Int))).drew w.heap.size 32 #[.int .i64 (a : Int), .int .i64 (b : Int)] := ((hb2.set_ 0 (.int .i64 (a : Int))).set_ 1 (.int .i64 (b : Int))).drewN 1
    have hxc : Below w.heap.size w ((w2.setCell ⟨w.heap.size, 0, none⟩ (.int .i64 (a : Int))).setCell ⟨w.heap.size, 1, none⟩ (.int .i64 (b : Int))).drew := ((hxb.setCell (p := ⟨w.heap.size, 0, none⟩) (Nat.le_refl _) _).setCell (p := ⟨w.heap.size, 1, none⟩) (Nat.le_refl _) _).drew
    go_region
    go_wp2_with fail
    generalize ((w2.setCell ⟨w.heap.size, 0, none⟩ (.int .i64 (a : Int))).setCell ⟨w.heap.size, 1, none⟩ (.int .i64 (b : Int))).drew = w3 at *
    have e4 : w3.cell? ⟨w.heap.size, 0, none⟩ = some (.int .i64 (a : Int)) := hb4.cell 0
    have e5 : w3.cell? ⟨w.heap.size, 1, none⟩ = some (.int .i64 (b : Int)) := hb4.cell 1
    exact bodyPost_ret (v := .tuple #[.slice none 0 0, .agg #[.int .i64 (a : Int), .int .i64 (b : Int)]]) (by simp [results, Try.results40, go_sem, e4, e5]) rfl ⟨_, rfl, fun h => absurd (HOK.out.2 h) h0, fun _ => rfl, hxc⟩
/-- what is wrong with a path's question -/
def pathF (ll : List Bs) (z : Int) : Nat × Nat := if (wrongS ll).1 ≠ 0 then wrongS ll else if 0 ≤ z ∧ z < ll.length then (0, 0) else (6, 0)

set_option maxRecDepth 100000 in
set_option maxHeartbeats 1000000 in
theorem Path_any (w : World) (F : Nat → Prop) (v : Value) (ll : List Bs) (z : Int) (hl : BList w F v ll) :
    Calls Try.prog 41 #[v, .int .i64 z] w fun e w' => ∃ rv, e = .returned (.tuple #[rv, fv (pathF ll z)]) ∧ ((pathF ll z).1 = 0 → OwnL w' w.heap.size rv (Tr.path (ll.map Tr.leafH) z.toNat)) ∧ ((pathF ll z).1 ≠ 0 → rv = .slice none 0 0) ∧ Below w.heap.size w w' := by
  obtain ⟨A, c, hv, hnc, hcm, _⟩ := hl.shape
  subst hv
  have hok := wrongS_ok ll
  have hze := wrongS_zero ll
  have hx0 : Below w.heap.size w (w.alloc (.cells #[.int .i64 0, .int .i64 0] 32)) := (Below.refl _ _).alloc (Nat.le_refl _) _
  have hl0 := hl.alloc (.cells #[.int .i64 0, .int .i64 0] 32)
  have hw := wrong_any _ F _ ll hl0
  have hle := wrongS_le ll
  have hpf : pathF ll z = if (wrongS ll).1 ≠ 0 then wrongS ll else if 0 ≤ z ∧ z < ll.length then (0, 0) else (6, 0) := rfl
  generalize wrongS ll = p at *
  obtain ⟨a, b⟩ := p
  dsimp only at hok hle hpf
  have HPF := Lib.hid hpf
  clear hpf
  have HOK := Lib.hid hok
  have HZ := Lib.hid hze
  have HW := Lib.hid hw
  clear hok hze hw
  go_enter Try.func41, Try.ntmps41
  go_wp2_with fail
  refine HW.out.mono ?_
  rintro e w1 ⟨rfl, hx1⟩
  unfold fv
  dsimp only
  have hxa := hx0.trans (hx1.mono hx0.size)
  have hs1 := hxa.size
  have hc0 : w1.cell? ⟨w.heap.size, 0, none⟩ = some (.int .i64 0) := (hx1.cell (p := ⟨w.heap.size, 0, none⟩) (by simp)).trans (by rw [World.cell?_alloc_mark]; rfl)
  have hc1 : w1.cell? ⟨w.heap.size, 1, none⟩ = some (.int .i64 0) := (hx1.cell (p := ⟨w.heap.size, 1, none⟩) (by simp)).trans (by rw [World.cell?_alloc_mark]; rfl)
  by_cases h0 : a = 0
  · have hB : ((a : Int) != 0) = false := by rw [bne_eq_false_iff_eq]; omega
    have hfine : Fine ll := HOK.out.1 h0
    have hz := HZ.out h0
    simp only [Prod.mk.injEq] at hz
    obtain ⟨rfl, rfl⟩ := hz
    have hxb := hxa.alloc hs1 (.cells #[.int .i64 0, .int .i64 0] 32)
    have hb1 : Blk w1 w.heap.size 32 #[.int .i64 0, .int .i64 0] := Blk.keep (heap_alloc_new w _) (hx1.block _ (by simp))
    have hb2 := hb1.alloc (.cells #[.int .i64 0, .int .i64 0] 32)
    have hlt : w.heap.size < w1.heap.size := by have := hx1.size; simp at this; omega
    have hl2 := (hl.below hxa).alloc (.cells #[.int .i64 0, .int .i64 0] 32)
    have HQ : Hid (pathF ll z = if 0 ≤ z ∧ z < ll.length then (0, 0) else (6, 0)) := Lib.hid (by rw [HPF.out, if_neg (by simp)])
    clear h0 HPF HOK HZ HW
    have k0 := hb1.frozen 0
    have k1 := hb1.frozen 1
    by_cases hr : 0 ≤ z ∧ z < ll.length
    · have HP : Hid (pathF ll z = (0, 0)) := Lib.hid (by rw [HQ.out, if_pos hr])
      obtain ⟨hz0, hz1⟩ := hr
      have hB0 : decide (z < 0) = false := by simp; omega
      have hB1 : decide ((ll.length : Int) ≤ z) = false := by simp; omega
      have hzn : z = ((z.toNat : Nat) : Int) := by omega
      have hzl : z.toNat ≤ 128 := by have := hfine.1; omega
      have HZ := Lib.hid hzn
      clear hzn k0 k1
      go_wp2_with fail
      refine (leaves_any _ _ _ ll hl2 (by have := hfine.1; omega) (fun b hb => by have := hfine.2 b hb; omega)).mono ?_
      rintro e w3 ⟨v3, rfl, hown3, hx3⟩
      have hb3 := hb2.below hx3 (by simp; omega)
      have hxc := hxb.trans (hx3.mono hxb.size)
      go_wp2_with fail
      refine (path_any ll.length w3 _ v3 (ll.map Tr.leafH) z.toNat z hown3.blist (by simp) (by have := hfine.1; omega) hzl HZ.out (short_leaves ll)).mono ?_
      rintro e w4 ⟨v4, rfl, ⟨vs, hown4, hin4⟩, hx4⟩
      have hb4 := hb3.below hx4 (by have := hxc.size; have := hx3.size; simp at this; omega)
      have hxd := hxc.trans (hx4.mono hxc.size)
      have e0 : w4.cell? ⟨w.heap.size, 0, none⟩ = some (.int .i64 0) := hb4.cell 0
      have e1 : w4.cell? ⟨w.heap.size, 1, none⟩ = some (.int .i64 0) := hb4.cell 1
      have f0 := hb4.frozen 0
      have f1 := hb4.frozen 1
      go_wp2_with fail
      have ho5 := OwnL.setBlk (OwnL.setBlk (OwnL.mono ⟨vs, hown4, hin4⟩ hxc.size) hb4 (by decide) (by decide) 0 (.int .i64 0)) (hb4.set_ 0 (.int .i64 0)) (by decide) (by decide) 1 (.int .i64 0)
      have hb5 := (hb4.set_ 0 (.int .i64 0)).set_ 1 (.int .i64 0)
      have hxe := (hxd.setCell (p := ⟨w.heap.size, 0, none⟩) (Nat.le_refl _) (.int .i64 0)).setCell (p := ⟨w.heap.size, 1, none⟩) (Nat.le_refl _) (.int .i64 0)
      generalize (w4.setCell ⟨w.heap.size, 0, none⟩ (.int .i64 0)).setCell ⟨w.heap.size, 1, none⟩ (.int .i64 0) = w5 at *
      have e4 : w5.cell? ⟨w.heap.size, 0, none⟩ = some (.int .i64 0) := hb5.cell 0
      have e5 : w5.cell? ⟨w.heap.size, 1, none⟩ = some (.int .i64 0) := hb5.cell 1
      exact bodyPost_ret (v := .tuple #[v4, .agg #[.int .i64 0, .int .i64 0]]) (by simp [results, Try.results41, go_sem, e4, e5]) rfl ⟨_, by rw [HP.out]; rfl, fun _ => ho5, fun h => absurd (by rw [HP.out]) h, hxe⟩
    · have HP : Hid (pathF ll z = (6, 0)) := Lib.hid (by rw [HQ.out, if_neg hr])
      have hb5 := ((hb1.set_ 0 (.int .i64 6)).set_ 1 (.int .i64 0)).alloc (.cells #[.int .i64 0, .int .i64 0] 32)
      have hxe := ((hxa.setCell (p := ⟨w.heap.size, 0, none⟩) (Nat.le_refl _) (.int .i64 6)).setCell (p := ⟨w.heap.size, 1, none⟩) (Nat.le_refl _) (.int .i64 0)).alloc (by simpa using hs1) (.cells #[.int .i64 0, .int .i64 0] 32)
      have hr' : z < 0 ∨ ¬ z < 0 ∧ (ll.length : Int) ≤ z := by omega
      rcases hr' with hz | ⟨hz0, hz1⟩
      · have hB0 : decide (z < 0) = true := by simp; omega
        clear hr
        go_wp2_with fail
        generalize (((w1.setCell ⟨w.heap.size, 0, none⟩ (.int .i64 6)).setCell ⟨w.heap.size, 1, none⟩ (.int .i64 0)).alloc (.cells #[.int .i64 0, .int .i64 0] 32)) = w5 at *
        have e4 : w5.cell? ⟨w.heap.size, 0, none⟩ = some (.int .i64 6) := hb5.cell 0
        have e5 : w5.cell? ⟨w.heap.size, 1, none⟩ = some (.int .i64 0) := hb5.cell 1
        exact bodyPost_ret (v := .tuple #[.slice none 0 0, .agg #[.int .i64 6, .int .i64 0]]) (by simp [results, Try.results41, go_sem, e4, e5]) rfl ⟨_, by rw [HP.out]; rfl, fun h => by rw [HP.out] at h; exact absurd h (by decide), fun _ => rfl, hxe⟩
      · have hB0 : decide (z < 0) = false := by simp; omega
        have hB1 : decide ((ll.length : Int) ≤ z) = true := by simp; omega
        clear hr
        go_wp2_with fail
        generalize (((w1.setCell ⟨w.heap.size, 0, none⟩ (.int .i64 6)).setCell ⟨w.heap.size, 1, none⟩ (.int .i64 0)).alloc (.cells #[.int .i64 0, .int .i64 0] 32)) = w5 at *
        have e4 : w5.cell? ⟨w.heap.size, 0, none⟩ = some (.int .i64 6) := hb5.cell 0
        have e5 : w5.cell? ⟨w.heap.size, 1, none⟩ = some (.int .i64 0) := hb5.cell 1
        exact bodyPost_ret (v := .tuple #[.slice none 0 0, .agg #[.int .i64 6, .int .i64 0]]) (by simp [results, Try.results41, go_sem, e4, e5]) rfl ⟨_, by rw [HP.out]; rfl, fun h => by rw [HP.out] at h; exact absurd h (by decide), fun _ => rfl, hxe⟩
  · have hB : ((a : Int) != 0) = true := by rw [bne_iff_ne]; omega
    go_wp2_with fail
    have hxb := hxa.alloc hs1 (.cells #[.int .i64 (a : Int), .int .i64 (b : Int)] 32)
    have hb1 : Blk w1 w.heap.size 32 #[.int .i64 0, .int .i64 0] := Blk.keep (heap_alloc_new w _) (hx1.block _ (by simp))
    have hb2 := hb1.alloc (.cells #[.int .i64 (a : Int), .int .i64 (b : Int)] 32)
    have hb3 : Blk (w1.alloc (.cells #[.int .i64 (a : Int), .int .i64 (b : Int)] 32)) w1.heap.size 32 #[.int .i64 (a : Int), .int .i64 (b : Int)] := heap_alloc_new w1 _
    have hlt : w.heap.size < w1.heap.size := by have := hx1.size; simp at this; omega
    generalize (w1.alloc (.cells #[.int .i64 (a : Int), .int .i64 (b : Int)] 32)) = w2 at *
    have e0 : w2.cell? ⟨w.heap.size, 0, none⟩ = some (.int .i64 0) := hb2.cell 0
    have e1 : w2.cell? ⟨w.heap.size, 1, none⟩ = some (.int .i64 0) := hb2.cell 1
    have f0 := hb2.frozen 0
    have f1 := hb2.frozen 1
    have e2 : w2.cell? ⟨w1.heap.size, 0, none⟩ = some (.int .i64 (a : Int)) := hb3.cell 0
    have e3 : w2.cell? ⟨w1.heap.size, 1, none⟩ = some (.int .i64 (b : Int)) := hb3.cell 1
    have hb4 : Blk ((w2.setCell ⟨w.heap.size, 0, none⟩ (.int .i64 (a : Int))).setCell ⟨w.heap.size, 1, none⟩ (.int .i64 (b : Int))).drew w.heap.size 32 #[.int .i64 (a : Int), .int .i64 (b : Int)] := ((hb2.set_ 0 (.int .i64 (a : Int))).set_ 1 (.int .i64 (b : Int))).drewN 1
    have hxc : Below w.heap.size w ((w2.setCell ⟨w.heap.size, 0, none⟩ (.int .i64 (a : Int))).setCell ⟨w.heap.size, 1, none⟩ (.int .i64 (b : Int))).drew := ((hxb.setCell (p := ⟨w.heap.size, 0, none⟩) (Nat.le_refl _) _).setCell (p := ⟨w.heap.size, 1, none⟩) (Nat.le_refl _) _).drew
    go_region
    go_wp2_with fail
    generalize ((w2.setCell ⟨w.heap.size, 0, none⟩ (.int .i64 (a : Int))).setCell ⟨w.heap.size, 1, none⟩ (.int .i64 (b : Int))).drew = w3 at *
    have e4 : w3.cell? ⟨w.heap.size, 0, none⟩ = some (.int .i64 (a : Int)) := hb4.cell 0
    have e5 : w3.cell? ⟨w.heap.size, 1, none⟩ = some (.int .i64 (b : Int)) := hb4.cell 1
    exact bodyPost_ret (v := .tuple #[.slice none 0 0, .agg #[.int .i64 (a : Int), .int .i64 (b : Int)]]) (by simp [results, Try.results41, go_sem, e4, e5]) rfl ⟨_, by rw [HPF.out, if_pos h0]; rfl, fun h => by rw [HPF.out, if_pos h0] at h; exact absurd h h0, fun _ => rfl, hxc⟩
/-- what is wrong with a question for what grew -/
def growsF (ll : List Bs) (z : Int) : Nat × Nat := if (wrongS ll).1 ≠ 0 then wrongS ll else if 1 ≤ z ∧ z ≤ ll.length then (0, 0) else (3, 0)

set_option maxRecDepth 100000 in
set_option maxHeartbeats 1000000 in
theorem Grows_any (w : World) (F : Nat → Prop) (v : Value) (ll : List Bs) (z : Int) (hl : BList w F v ll) :
    Calls Try.prog 42 #[v, .int .i64 z] w fun e w' => ∃ rv, e = .returned (.tuple #[rv, fv (growsF ll z)]) ∧ ((growsF ll z).1 = 0 → OwnL w' w.heap.size rv (Tr.grows (ll.map Tr.leafH) z.toNat true)) ∧ ((growsF ll z).1 ≠ 0 → rv = .slice none 0 0) ∧ Below w.heap.size w w' := by
  obtain ⟨A, c, hv, hnc, hcm, _⟩ := hl.shape
  subst hv
  have hok := wrongS_ok ll
  have hze := wrongS_zero ll
  have hx0 : Below w.heap.size w (w.alloc (.cells #[.int .i64 0, .int .i64 0] 32)) := (Below.refl _ _).alloc (Nat.le_refl _) _
  have hl0 := hl.alloc (.cells #[.int .i64 0, .int .i64 0] 32)
  have hw := wrong_any _ F _ ll hl0
  have hle := wrongS_le ll
  have hpf : growsF ll z = if (wrongS ll).1 ≠ 0 then wrongS ll else if 1 ≤ z ∧ z ≤ ll.length then (0, 0) else (3, 0) := rfl
  generalize wrongS ll = p at *
  obtain ⟨a, b⟩ := p
  dsimp only at hok hle hpf
  have HPF := Lib.hid hpf
  clear hpf
  have HOK := Lib.hid hok
  have HZ := Lib.hid hze
  have HW := Lib.hid hw
  clear hok hze hw
  go_enter Try.func42, Try.ntmps42
  go_wp2_with fail
  refine HW.out.mono ?_
  rintro e w1 ⟨rfl, hx1⟩
  unfold fv
  dsimp only
  have hxa := hx0.trans (hx1.mono hx0.size)
  have hs1 := hxa.size
  have hc0 : w1.cell? ⟨w.heap.size, 0, none⟩ = some (.int .i64 0) := (hx1.cell (p := ⟨w.heap.size, 0, none⟩) (by simp)).trans (by rw [World.cell?_alloc_mark]; rfl)
  have hc1 : w1.cell? ⟨w.heap.size, 1, none⟩ = some (.int .i64 0) := (hx1.cell (p := ⟨w.heap.size, 1, none⟩) (by simp)).trans (by rw [World.cell?_alloc_mark]; rfl)
  by_cases h0 : a = 0
  · have hB : ((a : Int) != 0) = false := by rw [bne_eq_false_iff_eq]; omega
    have hfine : Fine ll := HOK.out.1 h0
    have hz := HZ.out h0
    simp only [Prod.mk.injEq] at hz
    obtain ⟨rfl, rfl⟩ := hz
    have hxb := hxa.alloc hs1 (.cells #[.int .i64 0, .int .i64 0] 32)
    have hb1 : Blk w1 w.heap.size 32 #[.int .i64 0, .int .i64 0] := Blk.keep (heap_alloc_new w _) (hx1.block _ (by simp))
    have hb2 := hb1.alloc (.cells #[.int .i64 0, .int .i64 0] 32)
    have hlt : w.heap.size < w1.heap.size := by have := hx1.size; simp at this; omega
    have hl2 := (hl.below hxa).alloc (.cells #[.int .i64 0, .int .i64 0] 32)
    have HQ : Hid (growsF ll z = if 1 ≤ z ∧ z ≤ ll.length then (0, 0) else (3, 0)) := Lib.hid (by rw [HPF.out, if_neg (by simp)])
    clear h0 HPF HOK HZ HW
    have k0 := hb1.frozen 0
    have k1 := hb1.frozen 1
    by_cases hr : 1 ≤ z ∧ z ≤ ll.length
    · have HP : Hid (growsF ll z = (0, 0)) := Lib.hid (by rw [HQ.out, if_pos hr])
      obtain ⟨hz0, hz1⟩ := hr
      have hB0 : decide (z < 1) = false := by simp; omega
      have hB1 : decide ((ll.length : Int) < z) = false := by simp; omega
      have hzn : z = ((z.toNat : Nat) : Int) := by omega
      have hzl : z.toNat ≤ 128 := by have := hfine.1; omega
      have HZ := Lib.hid hzn
      clear hzn k0 k1
      go_wp2_with fail
      refine (leaves_any _ _ _ ll hl2 (by have := hfine.1; omega) (fun b hb => by have := hfine.2 b hb; omega)).mono ?_
      rintro e w3 ⟨v3, rfl, hown3, hx3⟩
      have hb3 := hb2.below hx3 (by simp; omega)
      have hxc := hxb.trans (hx3.mono hxb.size)
      go_wp2_with fail
      refine (grows_any ll.length w3 _ v3 (ll.map Tr.leafH) z.toNat z true hown3.blist (by simp) (by have := hfine.1; omega) (by omega) (by omega) HZ.out (short_leaves ll)).mono ?_
      rintro e w4 ⟨v4, rfl, ⟨vs, hown4, hin4⟩, hx4⟩
      have hb4 := hb3.below hx4 (by have := hxc.size; have := hx3.size; simp at this; omega)
      have hxd := hxc.trans (hx4.mono hxc.size)
      have e0 : w4.cell? ⟨w.heap.size, 0, none⟩ = some (.int .i64 0) := hb4.cell 0
      have e1 : w4.cell? ⟨w.heap.size, 1, none⟩ = some (.int .i64 0) := hb4.cell 1
      have f0 := hb4.frozen 0
      have f1 := hb4.frozen 1
      go_wp2_with fail
      have ho5 := OwnL.setBlk (OwnL.setBlk (OwnL.mono ⟨vs, hown4, hin4⟩ hxc.size) hb4 (by decide) (by decide) 0 (.int .i64 0)) (hb4.set_ 0 (.int .i64 0)) (by decide) (by decide) 1 (.int .i64 0)
      have hb5 := (hb4.set_ 0 (.int .i64 0)).set_ 1 (.int .i64 0)
      have hxe := (hxd.setCell (p := ⟨w.heap.size, 0, none⟩) (Nat.le_refl _) (.int .i64 0)).setCell (p := ⟨w.heap.size, 1, none⟩) (Nat.le_refl _) (.int .i64 0)
      generalize (w4.setCell ⟨w.heap.size, 0, none⟩ (.int .i64 0)).setCell ⟨w.heap.size, 1, none⟩ (.int .i64 0) = w5 at *
      have e4 : w5.cell? ⟨w.heap.size, 0, none⟩ = some (.int .i64 0) := hb5.cell 0
      have e5 : w5.cell? ⟨w.heap.size, 1, none⟩ = some (.int .i64 0) := hb5.cell 1
      exact bodyPost_ret (v := .tuple #[v4, .agg #[.int .i64 0, .int .i64 0]]) (by simp [results, Try.results42, go_sem, e4, e5]) rfl ⟨_, by rw [HP.out]; rfl, fun _ => ho5, fun h => absurd (by rw [HP.out]) h, hxe⟩
    · have HP : Hid (growsF ll z = (3, 0)) := Lib.hid (by rw [HQ.out, if_neg hr])
      have hb5 := ((hb1.set_ 0 (.int .i64 3)).set_ 1 (.int .i64 0)).alloc (.cells #[.int .i64 0, .int .i64 0] 32)
      have hxe := ((hxa.setCell (p := ⟨w.heap.size, 0, none⟩) (Nat.le_refl _) (.int .i64 3)).setCell (p := ⟨w.heap.size, 1, none⟩) (Nat.le_refl _) (.int .i64 0)).alloc (by simpa using hs1) (.cells #[.int .i64 0, .int .i64 0] 32)
      have hr' : z < 1 ∨ ¬ z < 1 ∧ (ll.length : Int) < z := by omega
      rcases hr' with hz | ⟨hz0, hz1⟩
      · have hB0 : decide (z < 1) = true := by simp; omega
        clear hr
        go_wp2_with fail
        generalize (((w1.setCell ⟨w.heap.size, 0, none⟩ (.int .i64 3)).setCell ⟨w.heap.size, 1, none⟩ (.int .i64 0)).alloc (.cells #[.int .i64 0, .int .i64 0] 32)) = w5 at *
        have e4 : w5.cell? ⟨w.heap.size, 0, none⟩ = some (.int .i64 3) := hb5.cell 0
        have e5 : w5.cell? ⟨w.heap.size, 1, none⟩ = some (.int .i64 0) := hb5.cell 1
        exact bodyPost_ret (v := .tuple #[.slice none 0 0, .agg #[.int .i64 3, .int .i64 0]]) (by simp [results, Try.results42, go_sem, e4, e5]) rfl ⟨_, by rw [HP.out]; rfl, fun h => by rw [HP.out] at h; exact absurd h (by decide), fun _ => rfl, hxe⟩
      · have hB0 : decide (z < 1) = false := by simp; omega
        have hB1 : decide ((ll.length : Int) < z) = true := by simp; omega
        clear hr
        go_wp2_with fail
        generalize (((w1.setCell ⟨w.heap.size, 0, none⟩ (.int .i64 3)).setCell ⟨w.heap.size, 1, none⟩ (.int .i64 0)).alloc (.cells #[.int .i64 0, .int .i64 0] 32)) = w5 at *
        have e4 : w5.cell? ⟨w.heap.size, 0, none⟩ = some (.int .i64 3) := hb5.cell 0
        have e5 : w5.cell? ⟨w.heap.size, 1, none⟩ = some (.int .i64 0) := hb5.cell 1
        exact bodyPost_ret (v := .tuple #[.slice none 0 0, .agg #[.int .i64 3, .int .i64 0]]) (by simp [results, Try.results42, go_sem, e4, e5]) rfl ⟨_, by rw [HP.out]; rfl, fun h => by rw [HP.out] at h; exact absurd h (by decide), fun _ => rfl, hxe⟩
  · have hB : ((a : Int) != 0) = true := by rw [bne_iff_ne]; omega
    go_wp2_with fail
    have hxb := hxa.alloc hs1 (.cells #[.int .i64 (a : Int), .int .i64 (b : Int)] 32)
    have hb1 : Blk w1 w.heap.size 32 #[.int .i64 0, .int .i64 0] := Blk.keep (heap_alloc_new w _) (hx1.block _ (by simp))
    have hb2 := hb1.alloc (.cells #[.int .i64 (a : Int), .int .i64 (b : Int)] 32)
    have hb3 : Blk (w1.alloc (.cells #[.int .i64 (a : Int), .int .i64 (b : Int)] 32)) w1.heap.size 32 #[.int .i64 (a : Int), .int .i64 (b : Int)] := heap_alloc_new w1 _
    have hlt : w.heap.size < w1.heap.size := by have := hx1.size; simp at this; omega
    generalize (w1.alloc (.cells #[.int .i64 (a : Int), .int .i64 (b : Int)] 32)) = w2 at *
    have e0 : w2.cell? ⟨w.heap.size, 0, none⟩ = some (.int .i64 0) := hb2.cell 0
    have e1 : w2.cell? ⟨w.heap.size, 1, none⟩ = some (.int .i64 0) := hb2.cell 1
    have f0 := hb2.frozen 0
    have f1 := hb2.frozen 1
    have e2 : w2.cell? ⟨w1.heap.size, 0, none⟩ = some (.int .i64 (a : Int)) := hb3.cell 0
    have e3 : w2.cell? ⟨w1.heap.size, 1, none⟩ = some (.int .i64 (b : Int)) := hb3.cell 1
    have hb4 : Blk ((w2.setCell ⟨w.heap.size, 0, none⟩ (.int .i64 (a : Int))).setCell ⟨w.heap.size, 1, none⟩ (.int .i64 (b : Int))).drew w.heap.size 32 #[.int .i64 (a : Int), .int .i64 (b : Int)] := ((hb2.set_ 0 (.int .i64 (a : Int))).set_ 1 (.int .i64 (b : Int))).drewN 1
    have hxc : Below w.heap.size w ((w2.setCell ⟨w.heap.size, 0, none⟩ (.int .i64 (a : Int))).setCell ⟨w.heap.size, 1, none⟩ (.int .i64 (b : Int))).drew := ((hxb.setCell (p := ⟨w.heap.size, 0, none⟩) (Nat.le_refl _) _).setCell (p := ⟨w.heap.size, 1, none⟩) (Nat.le_refl _) _).drew
    go_region
    go_wp2_with fail
    generalize ((w2.setCell ⟨w.heap.size, 0, none⟩ (.int .i64 (a : Int))).setCell ⟨w.heap.size, 1, none⟩ (.int .i64 (b : Int))).drew = w3 at *
    have e4 : w3.cell? ⟨w.heap.size, 0, none⟩ = some (.int .i64 (a : Int)) := hb4.cell 0
    have e5 : w3.cell? ⟨w.heap.size, 1, none⟩ = some (.int .i64 (b : Int)) := hb4.cell 1
    exact bodyPost_ret (v := .tuple #[.slice none 0 0, .agg #[.int .i64 (a : Int), .int .i64 (b : Int)]]) (by simp [results, Try.results42, go_sem, e4, e5]) rfl ⟨_, by rw [HPF.out, if_pos h0]; rfl, fun h => by rw [HPF.out, if_pos h0] at h; exact absurd h h0, fun _ => rfl, hxc⟩
end Go.Proofs.Ytfdibjgmbdkbcaa
