/-
  THE WALK of yearref5.Export, of a log that is wrong. Conditions: what is read is a list of texts.
-/
import Derived.Test.YtfdibjgmbdkbcaaZGh
import Derived.Test.YtfdibjgmbdkbcaaZGr
import Derived.Test.YtfdibjgmbdkbcaaZR2B
namespace Go.Proofs.Ytfdibjgmbdkbcaa
open Go.RowKit Go.Lib

set_option maxRecDepth 100000 in
set_option maxHeartbeats 2000000 in
theorem rexport_bad (w : World) (F : Nat → Prop) (v : Value) (l : List Bs) (hl : BList w F v l) (hf : ¬ Fine l) :
    Calls Try.prog 60 #[v] w fun e w' => ∃ a b : Nat, e = .returned (.tuple #[.agg #[.int .i64 0, .slice none 0 0, .slice none 0 0], .agg #[.int .i64 (a : Int), .int .i64 (b : Int)]]) ∧ wrongS l = (a, b) ∧ ((a : Int) != 0) = true ∧ Below w.heap.size w w' := by
  obtain ⟨A, c, hv, hac, hcm, hAA⟩ := hl.shape
  subst hv
  have hx0 := ((Below.refl w.heap.size w).alloc (Nat.le_refl _) (.cells #[.int .i64 0, .slice none 0 0, .slice none 0 0] 77)).alloc (by simp) (.cells #[.int .i64 0, .int .i64 0] 32)
  have hbM : Blk ((w.alloc (.cells #[.int .i64 0, .slice none 0 0, .slice none 0 0] 77)).alloc (.cells #[.int .i64 0, .int .i64 0] 32)) w.heap.size 77 #[.int .i64 0, .slice none 0 0, .slice none 0 0] := Blk.alloc (heap_alloc_new w _) _
  have hbF : Blk ((w.alloc (.cells #[.int .i64 0, .slice none 0 0, .slice none 0 0] 77)).alloc (.cells #[.int .i64 0, .int .i64 0] 32)) (w.heap.size + 1) 32 #[.int .i64 0, .int .i64 0] := by
    have := heap_alloc_new (w.alloc (.cells #[.int .i64 0, .slice none 0 0, .slice none 0 0] 77)) (.cells #[.int .i64 0, .int .i64 0] 32)
    rw [World.size_alloc] at this
    exact this
  have hl0 := (hl.alloc (.cells #[.int .i64 0, .slice none 0 0, .slice none 0 0] 77)).alloc (.cells #[.int .i64 0, .int .i64 0] 32)
  go_enter Try.func60, Try.ntmps60
  go_wp2_with fail
  generalize hW0 : ((w.alloc (.cells #[.int .i64 0, .slice none 0 0, .slice none 0 0] 77)).alloc (.cells #[.int .i64 0, .int .i64 0] 32)) = w0 at *
  clear hW0
  obtain ⟨a, b, hw⟩ : ∃ a b : Nat, wrongS l = (a, b) := ⟨_, _, rfl⟩
  have ha : ((a : Int) != 0) = true := by
    rw [bne_iff_ne]
    intro h
    exact hf ((wrongS_ok l).1 (by rw [hw]; show a = 0; omega))
  refine (rwrong_any w0 F _ l hl0).mono ?_
  rw [hw]
  unfold fv
  rintro e w1 ⟨rfl, hx1⟩
  have HW := Lib.hid hw
  clear hw hf
  have hx2 := hx0.trans (hx1.mono hx0.size)
  have hx3 := hx2.alloc hx2.size (.cells #[.int .i64 (a : Int), .int .i64 (b : Int)] 32)
  have hM3 := (hbM.below hx1 hbM.lt).alloc (.cells #[.int .i64 (a : Int), .int .i64 (b : Int)] 32)
  have hF3 := (hbF.below hx1 hbF.lt).alloc (.cells #[.int .i64 (a : Int), .int .i64 (b : Int)] 32)
  have hg3 : Blk (w1.alloc (.cells #[.int .i64 (a : Int), .int .i64 (b : Int)] 32)) w1.heap.size 32 #[.int .i64 (a : Int), .int .i64 (b : Int)] := heap_alloc_new w1 _
  have hlt : w.heap.size + 1 < w1.heap.size := (hbF.below hx1 hbF.lt).lt
  go_upto_region 3 with (fail)
  generalize w1.alloc (.cells #[.int .i64 (a : Int), .int .i64 (b : Int)] 32) = w3 at *
  generalize w1.heap.size = g at *
  have b0 : w3.cell? ⟨w.heap.size + 1, 0, none⟩ = some (.int .i64 0) := hF3.cell 0
  have b1 : w3.cell? ⟨w.heap.size + 1, 1, none⟩ = some (.int .i64 0) := hF3.cell 1
  have m0 : w3.cell? ⟨w.heap.size, 0, none⟩ = some (.int .i64 0) := hM3.cell 0
  have m1 : w3.cell? ⟨w.heap.size, 1, none⟩ = some (.slice none 0 0) := hM3.cell 1
  have m2 : w3.cell? ⟨w.heap.size, 2, none⟩ = some (.slice none 0 0) := hM3.cell 2
  have g0 : w3.cell? ⟨g, 0, none⟩ = some (.int .i64 (a : Int)) := hg3.cell 0
  have g1 : w3.cell? ⟨g, 1, none⟩ = some (.int .i64 (b : Int)) := hg3.cell 1
  have f0 := hM3.frozen 0
  have f1 := hM3.frozen 1
  have f2 := hM3.frozen 2
  have f3 := hF3.frozen 0
  have f4 := hF3.frozen 1
  have n1 : ¬ w.heap.size = g := by omega
  have n2 : ¬ w.heap.size + 1 = g := by omega
  have n3 : ¬ g = w.heap.size := by omega
  have n4 : ¬ g = w.heap.size + 1 := by omega
  go_region
  all_goals go_wp2_with fail
  obtain ⟨W5, hW5⟩ : ∃ z : World, z = (((((w3.setCell ⟨w.heap.size, 0, none⟩ (.int .i64 0)).setCell ⟨w.heap.size, 1, none⟩ (.slice none 0 0)).setCell ⟨w.heap.size, 2, none⟩ (.slice none 0 0)).setCell ⟨w.heap.size + 1, 0, none⟩ (.int .i64 (a : Int))).setCell ⟨w.heap.size + 1, 1, none⟩ (.int .i64 (b : Int))).drew := ⟨_, rfl⟩
  rw [← hW5]
  have hM4 : Blk (((w3.setCell ⟨w.heap.size, 0, none⟩ (.int .i64 0)).setCell ⟨w.heap.size, 1, none⟩ (.slice none 0 0)).setCell ⟨w.heap.size, 2, none⟩ (.slice none 0 0)) w.heap.size 77 #[.int .i64 0, .slice none 0 0, .slice none 0 0] := ((hM3.set_ 0 _).set_ 1 _).set_ 2 _
  have hM5 : Blk W5 w.heap.size 77 #[.int .i64 0, .slice none 0 0, .slice none 0 0] := by rw [hW5]; exact Blk.drewN (hM4.far2 (g := w.heap.size + 1) (by omega) _ _) 1
  have hF4 : Blk (((w3.setCell ⟨w.heap.size, 0, none⟩ (.int .i64 0)).setCell ⟨w.heap.size, 1, none⟩ (.slice none 0 0)).setCell ⟨w.heap.size, 2, none⟩ (.slice none 0 0)) (w.heap.size + 1) 32 #[.int .i64 0, .int .i64 0] := ((hF3.far (p := ⟨w.heap.size, 0, none⟩) (by show w.heap.size + 1 ≠ w.heap.size; omega) _).far (p := ⟨w.heap.size, 1, none⟩) (by show w.heap.size + 1 ≠ w.heap.size; omega) _).far (p := ⟨w.heap.size, 2, none⟩) (by show w.heap.size + 1 ≠ w.heap.size; omega) _
  have hF5 : Blk W5 (w.heap.size + 1) 32 #[.int .i64 (a : Int), .int .i64 (b : Int)] := by rw [hW5]; exact Blk.drewN (hF4.set2 _ _) 1
  have hX5 : Below w.heap.size w W5 := by
    rw [hW5]
    exact (below_set2 (((hx3.setCell (p := ⟨w.heap.size, 0, none⟩) (Nat.le_refl _) _).setCell (p := ⟨w.heap.size, 1, none⟩) (Nat.le_refl _) _).setCell (p := ⟨w.heap.size, 2, none⟩) (Nat.le_refl _) _) (by omega) _ _).drew
  have s0 : W5.cell? ⟨w.heap.size, 0, none⟩ = some (.int .i64 0) := hM5.cell 0
  have s1 : W5.cell? ⟨w.heap.size, 1, none⟩ = some (.slice none 0 0) := hM5.cell 1
  have s2 : W5.cell? ⟨w.heap.size, 2, none⟩ = some (.slice none 0 0) := hM5.cell 2
  have s3 : W5.cell? ⟨w.heap.size + 1, 0, none⟩ = some (.int .i64 (a : Int)) := hF5.cell 0
  have s4 : W5.cell? ⟨w.heap.size + 1, 1, none⟩ = some (.int .i64 (b : Int)) := hF5.cell 1
  clear hW5 hM4 hF4
  exact bodyPost_ret (v := .tuple #[.agg #[.int .i64 0, .slice none 0 0, .slice none 0 0], .agg #[.int .i64 (a : Int), .int .i64 (b : Int)]]) (by simp [results, Try.results60, go_sem, s0, s1, s2, s3, s4]) rfl ⟨a, b, rfl, HW.out, ha, hX5⟩
end Go.Proofs.Ytfdibjgmbdkbcaa
