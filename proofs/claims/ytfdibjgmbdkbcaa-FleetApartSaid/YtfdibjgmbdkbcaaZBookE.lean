/-
  THE WALKS of book.Head, Path, Grows. Conditions: what is read is records.
-/
import Derived.Test.YtfdibjgmbdkbcaaZRepr
import Derived.Test.YtfdibjgmbdkbcaaZGf
import Derived.Test.YtfdibjgmbdkbcaaZBookD
namespace Go.Proofs.Ytfdibjgmbdkbcaa
open Go.RowKit Go.Lib
attribute [local go_sem ↓] Go.wp_at_zero Go.wp_at_succ

theorem leavesB_fine (w : World) (F : Nat → Prop) (v : Value) (l : List Rec) (hl : RdL w F v l) (hf : Bk.FineB l) :
    Calls Try.prog 107 #[v] w fun e w' => ∃ v, e = .returned (.tuple #[v, .agg #[.int .i64 0, .int .i64 0]]) ∧ OwnL w' w.heap.size v (Bk.rows l) ∧ Below w.heap.size w w' := by
  have h0 := Bk.wrongB_zero l ((Bk.wrongB_ok l).2 hf)
  refine (leavesB_any w F v l hl).mono ?_
  rintro e w' ⟨rv, rfl, h1, hx⟩
  rw [h0, if_pos rfl] at h1
  exact ⟨rv, by rw [h0]; rfl, h1, hx⟩
theorem leavesB_bad (w : World) (F : Nat → Prop) (v : Value) (l : List Rec) (hl : RdL w F v l) (hf : ¬ Bk.FineB l) :
    Calls Try.prog 107 #[v] w fun e w' => ∃ (rv : Value) (a b : Nat), e = .returned (.tuple #[rv, .agg #[.int .i64 (a : Int), .int .i64 (b : Int)]]) ∧ Bk.wrongB l = (a, b) ∧ ((a : Int) != 0) = true ∧ Below w.heap.size w w' := by
  refine (leavesB_any w F v l hl).mono ?_
  rintro e w' ⟨rv, rfl, h1, hx⟩
  refine ⟨rv, (Bk.wrongB l).1, (Bk.wrongB l).2, rfl, rfl, ?_, hx⟩
  rw [bne_iff_ne]
  intro h
  exact hf ((Bk.wrongB_ok l).1 (by omega))
theorem fine_rows {l : List Rec} (h : Bk.FineB l) : Fine (Bk.rows l) := Bk.rows_short h

set_option maxRecDepth 100000 in
set_option maxHeartbeats 2000000 in
theorem Head_fine (w : World) (F : Nat → Prop) (v : Value) (l : List Rec) (hl : RdL w F v l) (hf : Bk.FineB l) :
    Calls Try.prog 55 #[v] w fun e w' => ∃ v, e = .returned (.tuple #[.agg #[.int .i64 (l.length : Int), v], .agg #[.int .i64 0, .int .i64 0]]) ∧ OwnB w' w.heap.size v (Tr.root ((Bk.rows l).map Tr.leafH)) ∧ Below w.heap.size w w' := by
  obtain ⟨A, c, hv, hlc, hcm⟩ := hl.form
  subst hv
  unfold maxLen at hcm
  obtain ⟨R, HR⟩ : ∃ R, Hid (R = Tr.root ((Bk.rows l).map Tr.leafH)) := ⟨_, Lib.hid rfl⟩
  rw [← HR.out]
  have hx0 := ((Below.refl w.heap.size w).alloc (Nat.le_refl _) (.cells #[.int .i64 0, .slice none 0 0] 39)).alloc (by simp) (.cells #[.int .i64 0, .int .i64 0] 32)
  have hh0 : Blk ((w.alloc (.cells #[.int .i64 0, .slice none 0 0] 39)).alloc (.cells #[.int .i64 0, .int .i64 0] 32)) w.heap.size 39 #[.int .i64 0, .slice none 0 0] := Blk.alloc (heap_alloc_new w _) _
  have hf0 : Blk ((w.alloc (.cells #[.int .i64 0, .slice none 0 0] 39)).alloc (.cells #[.int .i64 0, .int .i64 0] 32)) (w.heap.size + 1) 32 #[.int .i64 0, .int .i64 0] := by
    have h := heap_alloc_new (w.alloc (.cells #[.int .i64 0, .slice none 0 0] 39)) (.cells #[.int .i64 0, .int .i64 0] 32)
    rw [World.size_alloc] at h
    exact h
  go_enter Try.func55, Try.ntmps55
  go_wp2_with fail
  generalize (w.alloc (.cells #[.int .i64 0, .slice none 0 0] 39)).alloc (.cells #[.int .i64 0, .int .i64 0] 32) = w0 at *
  refine (leavesB_fine w0 F _ l (hl.below hx0) hf).mono ?_
  rintro e w1 ⟨v1, rfl, hown1, hx1⟩
  have hx2 := hx0.trans (hx1.mono hx0.size)
  have hx3 := hx2.alloc hx2.size (.cells #[.int .i64 0, .int .i64 0] 32)
  have hh3 := (hh0.below hx1 hh0.lt).alloc (.cells #[.int .i64 0, .int .i64 0] 32)
  have hf3 := (hf0.below hx1 hf0.lt).alloc (.cells #[.int .i64 0, .int .i64 0] 32)
  have hb3 := hown1.blist.alloc (.cells #[.int .i64 0, .int .i64 0] 32)
  obtain ⟨A1, c1, hv1, _⟩ := hb3.shape
  subst hv1
  have HF := Lib.hid (fine_rows hf)
  clear hf hown1
  go_wp2_with fail
  generalize w1.alloc (.cells #[.int .i64 0, .int .i64 0] 32) = w3 at *
  refine (Root_fine w3 _ _ _ hb3 HF.out).mono ?_
  rw [← HR.out]
  rintro e w4 ⟨v4, rfl, hown4, hx4⟩
  obtain ⟨A3, c3, hv4, _, _⟩ := Own.shape hown4
  subst hv4
  have hx5' := hx3.trans (hx4.mono hx3.size)
  have hx5 := hx5'.alloc hx5'.size (.cells #[.int .i64 0, .int .i64 0] 32)
  have hh5 := (hh3.below hx4 hh3.lt).alloc (.cells #[.int .i64 0, .int .i64 0] 32)
  have hf5 := (hf3.below hx4 hf3.lt).alloc (.cells #[.int .i64 0, .int .i64 0] 32)
  have ho5 := (OwnB.mono hown4 hx3.size).alloc (.cells #[.int .i64 0, .int .i64 0] 32)
  go_upto_region 5 with (fail)
  generalize w4.alloc (.cells #[.int .i64 0, .int .i64 0] 32) = w5 at *
  have a0 : w5.cell? ⟨w.heap.size, 0, none⟩ = some (.int .i64 0) := hh5.cell 0
  have a1 : w5.cell? ⟨w.heap.size, 1, none⟩ = some (.slice none 0 0) := hh5.cell 1
  have b0 : w5.cell? ⟨w.heap.size + 1, 0, none⟩ = some (.int .i64 0) := hf5.cell 0
  have b1 : w5.cell? ⟨w.heap.size + 1, 1, none⟩ = some (.int .i64 0) := hf5.cell 1
  have f0 := hh5.frozen 0
  have f1 := hh5.frozen 1
  have f2 := hf5.frozen 0
  have f3 := hf5.frozen 1
  have hnb := Own.ne_blk ho5 hh5 (by decide)
  go_wp2_with fail
  have hh6 := hh5.set2 (.int .i64 (l.length : Int)) (.slice A3 R.length c3)
  have hf6 := hf5.far2 (g := w.heap.size) (by omega) (.int .i64 (l.length : Int)) (.slice A3 R.length c3)
  have hx6 := below_set2 (g := w.heap.size) hx5 (Nat.le_refl _) (.int .i64 (l.length : Int)) (.slice A3 R.length c3)
  have ho6 : OwnB _ _ (.slice A3 R.length c3) R := Own.set2 ho5 hnb (.int .i64 (l.length : Int)) (.slice A3 R.length c3)
  generalize ((w5.setCell ⟨w.heap.size, 0, none⟩ (.int .i64 (l.length : Int))).setCell ⟨w.heap.size, 1, none⟩ (.slice A3 R.length c3)) = w6 at *
  have hn2 := Own.ne_blk ho6 hf6 (by decide)
  have hh7 := hh6.far2 (g := w.heap.size + 1) (by omega) (.int .i64 0) (.int .i64 0)
  have hf7 := hf6.set2 (.int .i64 0) (.int .i64 0)
  have hx7 := below_set2 (g := w.heap.size + 1) hx6 (by omega) (.int .i64 0) (.int .i64 0)
  have ho7 : OwnB _ _ (.slice A3 R.length c3) R := Own.set2 ho6 hn2 (.int .i64 0) (.int .i64 0)
  generalize ((w6.setCell ⟨w.heap.size + 1, 0, none⟩ (.int .i64 0)).setCell ⟨w.heap.size + 1, 1, none⟩ (.int .i64 0)) = w7 at *
  have d0 : w7.cell? ⟨w.heap.size, 0, none⟩ = some (.int .i64 (l.length : Int)) := hh7.cell 0
  have d1 : w7.cell? ⟨w.heap.size, 1, none⟩ = some (.slice A3 R.length c3) := hh7.cell 1
  have d2 : w7.cell? ⟨w.heap.size + 1, 0, none⟩ = some (.int .i64 0) := hf7.cell 0
  have d3 : w7.cell? ⟨w.heap.size + 1, 1, none⟩ = some (.int .i64 0) := hf7.cell 1
  exact bodyPost_ret (v := .tuple #[.agg #[.int .i64 (l.length : Int), .slice A3 R.length c3], .agg #[.int .i64 0, .int .i64 0]]) (by simp [results, Try.results55, go_sem, d0, d1, d2, d3]) rfl ⟨_, rfl, ho7, hx7⟩

set_option maxRecDepth 100000 in
set_option maxHeartbeats 2000000 in
theorem Head_bad (w : World) (F : Nat → Prop) (v : Value) (l : List Rec) (hl : RdL w F v l) (hf : ¬ Bk.FineB l) :
    Calls Try.prog 55 #[v] w fun e w' => ∃ a b : Nat, e = .returned (.tuple #[.agg #[.int .i64 0, .slice none 0 0], .agg #[.int .i64 (a : Int), .int .i64 (b : Int)]]) ∧ Bk.wrongB l = (a, b) ∧ ((a : Int) != 0) = true ∧ Below w.heap.size w w' := by
  obtain ⟨A, c, hv, hlc, hcm⟩ := hl.form
  subst hv
  unfold maxLen at hcm
  have hx0 := ((Below.refl w.heap.size w).alloc (Nat.le_refl _) (.cells #[.int .i64 0, .slice none 0 0] 39)).alloc (by simp) (.cells #[.int .i64 0, .int .i64 0] 32)
  have hh0 : Blk ((w.alloc (.cells #[.int .i64 0, .slice none 0 0] 39)).alloc (.cells #[.int .i64 0, .int .i64 0] 32)) w.heap.size 39 #[.int .i64 0, .slice none 0 0] := Blk.alloc (heap_alloc_new w _) _
  have hf0 : Blk ((w.alloc (.cells #[.int .i64 0, .slice none 0 0] 39)).alloc (.cells #[.int .i64 0, .int .i64 0] 32)) (w.heap.size + 1) 32 #[.int .i64 0, .int .i64 0] := by
    have h := heap_alloc_new (w.alloc (.cells #[.int .i64 0, .slice none 0 0] 39)) (.cells #[.int .i64 0, .int .i64 0] 32)
    rw [World.size_alloc] at h
    exact h
  go_enter Try.func55, Try.ntmps55
  go_wp2_with fail
  generalize (w.alloc (.cells #[.int .i64 0, .slice none 0 0] 39)).alloc (.cells #[.int .i64 0, .int .i64 0] 32) = w0 at *
  refine (leavesB_bad w0 F _ l (hl.below hx0) hf).mono ?_
  rintro e w1 ⟨v1, a, b, rfl, hw, ha, hx1⟩
  have HW := Lib.hid hw
  clear hw hf
  have hx2 := hx0.trans (hx1.mono hx0.size)
  have hx3 := hx2.alloc hx2.size (.cells #[.int .i64 (a : Int), .int .i64 (b : Int)] 32)
  have hh3 := (hh0.below hx1 hh0.lt).alloc (.cells #[.int .i64 (a : Int), .int .i64 (b : Int)] 32)
  have hf3 := (hf0.below hx1 hf0.lt).alloc (.cells #[.int .i64 (a : Int), .int .i64 (b : Int)] 32)
  have hg3 : Blk (w1.alloc (.cells #[.int .i64 (a : Int), .int .i64 (b : Int)] 32)) w1.heap.size 32 #[.int .i64 (a : Int), .int .i64 (b : Int)] := heap_alloc_new w1 _
  have hlt : w.heap.size + 1 < w1.heap.size := (hf0.below hx1 hf0.lt).lt
  go_upto_region 3 with (fail)
  generalize w1.alloc (.cells #[.int .i64 (a : Int), .int .i64 (b : Int)] 32) = w3 at *
  generalize w1.heap.size = g at *
  have a0 : w3.cell? ⟨w.heap.size, 0, none⟩ = some (.int .i64 0) := hh3.cell 0
  have a1 : w3.cell? ⟨w.heap.size, 1, none⟩ = some (.slice none 0 0) := hh3.cell 1
  have b0 : w3.cell? ⟨w.heap.size + 1, 0, none⟩ = some (.int .i64 0) := hf3.cell 0
  have b1 : w3.cell? ⟨w.heap.size + 1, 1, none⟩ = some (.int .i64 0) := hf3.cell 1
  have g0 : w3.cell? ⟨g, 0, none⟩ = some (.int .i64 (a : Int)) := hg3.cell 0
  have g1 : w3.cell? ⟨g, 1, none⟩ = some (.int .i64 (b : Int)) := hg3.cell 1
  have f0 := hh3.frozen 0
  have f1 := hh3.frozen 1
  have f2 := hf3.frozen 0
  have f3 := hf3.frozen 1
  have n1 : ¬ w.heap.size = g := by omega
  have n2 : ¬ w.heap.size + 1 = g := by omega
  have n3 : ¬ g = w.heap.size := by omega
  have n4 : ¬ g = w.heap.size + 1 := by omega
  have p1 := (hh3.set2 (.int .i64 0) (.slice none 0 0)).far2 (g := w.heap.size + 1) (by omega) (.int .i64 (a : Int)) (.int .i64 (b : Int))
  have p2 := (hf3.far2 (g := w.heap.size) (by omega) (.int .i64 0) (.slice none 0 0)).set2 (.int .i64 (a : Int)) (.int .i64 (b : Int))
  have p3 := below_set2 (g := w.heap.size + 1) (below_set2 (g := w.heap.size) hx3 (Nat.le_refl _) (.int .i64 0) (.slice none 0 0)) (by omega) (.int .i64 (a : Int)) (.int .i64 (b : Int))
  have q1 := (hh3.far2 (g := w.heap.size + 1) (by omega) (.int .i64 (a : Int)) (.int .i64 (b : Int))).set2 (.int .i64 0) (.slice none 0 0)
  have q2 := (hf3.set2 (.int .i64 (a : Int)) (.int .i64 (b : Int))).far2 (g := w.heap.size) (by omega) (.int .i64 0) (.slice none 0 0)
  have q3 := below_set2 (g := w.heap.size) (below_set2 (g := w.heap.size + 1) hx3 (by omega) (.int .i64 (a : Int)) (.int .i64 (b : Int))) (Nat.le_refl _) (.int .i64 0) (.slice none 0 0)
  go_region
  go_wp2_with fail
  have p1' := Blk.drewN p1 1
  have p2' := Blk.drewN p2 1
  have p3' := p3.drew
  clear p1 p2 p3 q1 q2 q3
  generalize hW : (((((w3.setCell ⟨w.heap.size, 0, none⟩ (.int .i64 0)).setCell ⟨w.heap.size, 1, none⟩ (.slice none 0 0)).setCell ⟨w.heap.size + 1, 0, none⟩ (.int .i64 (a : Int))).setCell ⟨w.heap.size + 1, 1, none⟩ (.int .i64 (b : Int)))).drew = w4 at *
  have p1 : Blk w4 w.heap.size 39 #[.int .i64 0, .slice none 0 0] := by rw [← hW]; exact p1'
  have p2 : Blk w4 (w.heap.size + 1) 32 #[.int .i64 (a : Int), .int .i64 (b : Int)] := by rw [← hW]; exact p2'
  have d0 : w4.cell? ⟨w.heap.size, 0, none⟩ = some (.int .i64 0) := p1.cell 0
  have d1 : w4.cell? ⟨w.heap.size, 1, none⟩ = some (.slice none 0 0) := p1.cell 1
  have d2 : w4.cell? ⟨w.heap.size + 1, 0, none⟩ = some (.int .i64 (a : Int)) := p2.cell 0
  have d3 : w4.cell? ⟨w.heap.size + 1, 1, none⟩ = some (.int .i64 (b : Int)) := p2.cell 1
  exact bodyPost_ret (v := .tuple #[.agg #[.int .i64 0, .slice none 0 0], .agg #[.int .i64 (a : Int), .int .i64 (b : Int)]]) (by simp [results, Try.results55, go_sem, d0, d1, d2, d3]) rfl ⟨a, b, rfl, HW.out, ha, p3'⟩

set_option maxRecDepth 100000 in
set_option maxHeartbeats 2000000 in
theorem BPath_fine (w : World) (F : Nat → Prop) (v : Value) (l : List Rec) (z : Int) (hl : RdL w F v l) (hf : Bk.FineB l) (h0 : 0 ≤ z) (h1 : z < l.length) :
    Calls Try.prog 56 #[v, .int .i64 z] w fun e w' => ∃ rv, e = .returned (.tuple #[rv, .agg #[.int .i64 0, .int .i64 0]]) ∧ OwnL w' w.heap.size rv (Tr.path ((Bk.rows l).map Tr.leafH) z.toNat) ∧ Below w.heap.size w w' := by
  obtain ⟨A, c, hv, hlc, hcm⟩ := hl.form
  subst hv
  unfold maxLen at hcm
  obtain ⟨R, HR⟩ : ∃ R, Hid (R = Tr.path ((Bk.rows l).map Tr.leafH) z.toNat) := ⟨_, Lib.hid rfl⟩
  rw [← HR.out]
  have hx0 := (Below.refl w.heap.size w).alloc (Nat.le_refl _) (.cells #[.int .i64 0, .int .i64 0] 32)
  have hf0 : Blk (w.alloc (.cells #[.int .i64 0, .int .i64 0] 32)) w.heap.size 32 #[.int .i64 0, .int .i64 0] := heap_alloc_new w _
  go_enter Try.func56, Try.ntmps56
  go_wp2_with fail
  generalize w.alloc (.cells #[.int .i64 0, .int .i64 0] 32) = w0 at *
  refine (leavesB_fine w0 F _ l (hl.below hx0) hf).mono ?_
  rintro e w1 ⟨v1, rfl, hown1, hx1⟩
  have hx2 := hx0.trans (hx1.mono hx0.size)
  have hx3 := hx2.alloc hx2.size (.cells #[.int .i64 0, .int .i64 0] 32)
  have hf3 := (hf0.below hx1 hf0.lt).alloc (.cells #[.int .i64 0, .int .i64 0] 32)
  have hb3 := hown1.blist.alloc (.cells #[.int .i64 0, .int .i64 0] 32)
  obtain ⟨A1, c1, hv1, _⟩ := hb3.shape
  subst hv1
  have HF := Lib.hid (fine_rows hf)
  have HL : Hid ((Bk.rows l).length = l.length) := Lib.hid (by unfold Bk.rows; rw [List.length_map])
  clear hf hown1
  go_wp2_with fail
  generalize w1.alloc (.cells #[.int .i64 0, .int .i64 0] 32) = w3 at *
  refine (Path_fine w3 _ _ _ z hb3 HF.out (by omega) (by rw [HL.out]; omega)).mono ?_
  rw [← HR.out]
  rintro e w4 ⟨v4, rfl, hown4, hx4⟩
  have hx5 := hx3.trans (hx4.mono hx3.size)
  have hf5 := hf3.below hx4 hf3.lt
  obtain ⟨vs, ho, hin⟩ := hown4
  obtain ⟨A3, c3, hv4, _, _⟩ := Own.shape ho
  subst hv4
  have b0 : w4.cell? ⟨w.heap.size, 0, none⟩ = some (.int .i64 0) := hf5.cell 0
  have b1 : w4.cell? ⟨w.heap.size, 1, none⟩ = some (.int .i64 0) := hf5.cell 1
  have f2 := hf5.frozen 0
  have f3 := hf5.frozen 1
  go_wp2_with fail
  have hf6 := hf5.set2 (.int .i64 0) (.int .i64 0)
  have hx6 := below_set2 (g := w.heap.size) hx5 (Nat.le_refl _) (.int .i64 0) (.int .i64 0)
  have hoL : OwnL ((w4.setCell ⟨w.heap.size, 0, none⟩ (.int .i64 0)).setCell ⟨w.heap.size, 1, none⟩ (.int .i64 0)) w.heap.size (.slice A3 R.length c3) R :=
    ⟨vs, (Own.set2 ho (Own.ne_blk ho hf5 (by decide)) _ _).mono hx3.size, fun i b hb => by
      obtain ⟨u, hu, hu2⟩ := hin i b hb
      exact ⟨u, hu, (Own.set2 hu2 (Own.ne_blk hu2 hf5 (by decide)) _ _).mono hx3.size⟩⟩
  generalize ((w4.setCell ⟨w.heap.size, 0, none⟩ (.int .i64 0)).setCell ⟨w.heap.size, 1, none⟩ (.int .i64 0)) = w6 at *
  have d2 : w6.cell? ⟨w.heap.size, 0, none⟩ = some (.int .i64 0) := hf6.cell 0
  have d3 : w6.cell? ⟨w.heap.size, 1, none⟩ = some (.int .i64 0) := hf6.cell 1
  exact bodyPost_ret (v := .tuple #[.slice A3 R.length c3, .agg #[.int .i64 0, .int .i64 0]]) (by simp [results, Try.results56, go_sem, d2, d3]) rfl ⟨_, rfl, hoL, hx6⟩

set_option maxRecDepth 100000 in
set_option maxHeartbeats 2000000 in
theorem BPath_none (w : World) (F : Nat → Prop) (v : Value) (l : List Rec) (z : Int) (hl : RdL w F v l) (hf : Bk.FineB l) (hz : ¬ (0 ≤ z ∧ z < l.length)) :
    Calls Try.prog 56 #[v, .int .i64 z] w fun e w' => e = .returned (.tuple #[.slice none 0 0, .agg #[.int .i64 6, .int .i64 0]]) ∧ Below w.heap.size w w' := by
  obtain ⟨A, c, hv, hlc, hcm⟩ := hl.form
  subst hv
  unfold maxLen at hcm
  have hx0 := (Below.refl w.heap.size w).alloc (Nat.le_refl _) (.cells #[.int .i64 0, .int .i64 0] 32)
  have hf0 : Blk (w.alloc (.cells #[.int .i64 0, .int .i64 0] 32)) w.heap.size 32 #[.int .i64 0, .int .i64 0] := heap_alloc_new w _
  have HZ := Lib.hid hz
  clear hz
  go_enter Try.func56, Try.ntmps56
  go_wp2_with fail
  generalize w.alloc (.cells #[.int .i64 0, .int .i64 0] 32) = w0 at *
  refine (leavesB_fine w0 F _ l (hl.below hx0) hf).mono ?_
  rintro e w1 ⟨v1, rfl, hown1, hx1⟩
  have hx2 := hx0.trans (hx1.mono hx0.size)
  have hx3 := hx2.alloc hx2.size (.cells #[.int .i64 0, .int .i64 0] 32)
  have hf3 := (hf0.below hx1 hf0.lt).alloc (.cells #[.int .i64 0, .int .i64 0] 32)
  have hb3 := hown1.blist.alloc (.cells #[.int .i64 0, .int .i64 0] 32)
  obtain ⟨A1, c1, hv1, _⟩ := hb3.shape
  subst hv1
  have HF := Lib.hid (fine_rows hf)
  have HL : Hid ((Bk.rows l).length = l.length) := Lib.hid (by unfold Bk.rows; rw [List.length_map])
  clear hf hown1
  go_wp2_with fail
  generalize w1.alloc (.cells #[.int .i64 0, .int .i64 0] 32) = w3 at *
  refine (Path_none w3 _ _ _ z hb3 HF.out (by rw [HL.out]; exact HZ.out)).mono ?_
  rintro e w4 ⟨rfl, hx4⟩
  have hx5 := hx3.trans (hx4.mono hx3.size)
  have hf5 := hf3.below hx4 hf3.lt
  have b0 : w4.cell? ⟨w.heap.size, 0, none⟩ = some (.int .i64 0) := hf5.cell 0
  have b1 : w4.cell? ⟨w.heap.size, 1, none⟩ = some (.int .i64 0) := hf5.cell 1
  have f2 := hf5.frozen 0
  have f3 := hf5.frozen 1
  go_wp2_with fail
  have hf6 := hf5.set2 (.int .i64 6) (.int .i64 0)
  have hx6 := below_set2 (g := w.heap.size) hx5 (Nat.le_refl _) (.int .i64 6) (.int .i64 0)
  generalize ((w4.setCell ⟨w.heap.size, 0, none⟩ (.int .i64 6)).setCell ⟨w.heap.size, 1, none⟩ (.int .i64 0)) = w6 at *
  have d2 : w6.cell? ⟨w.heap.size, 0, none⟩ = some (.int .i64 6) := hf6.cell 0
  have d3 : w6.cell? ⟨w.heap.size, 1, none⟩ = some (.int .i64 0) := hf6.cell 1
  exact bodyPost_ret (v := .tuple #[.slice none 0 0, .agg #[.int .i64 6, .int .i64 0]]) (by simp [results, Try.results56, go_sem, d2, d3]) rfl ⟨rfl, hx6⟩

set_option maxRecDepth 100000 in
set_option maxHeartbeats 2000000 in
theorem BPath_bad (w : World) (F : Nat → Prop) (v : Value) (l : List Rec) (z : Int) (hl : RdL w F v l) (hf : ¬ Bk.FineB l) :
    Calls Try.prog 56 #[v, .int .i64 z] w fun e w' => ∃ a b : Nat, e = .returned (.tuple #[.slice none 0 0, .agg #[.int .i64 (a : Int), .int .i64 (b : Int)]]) ∧ Bk.wrongB l = (a, b) ∧ ((a : Int) != 0) = true ∧ Below w.heap.size w w' := by
  obtain ⟨A, c, hv, hlc, hcm⟩ := hl.form
  subst hv
  unfold maxLen at hcm
  have hx0 := (Below.refl w.heap.size w).alloc (Nat.le_refl _) (.cells #[.int .i64 0, .int .i64 0] 32)
  have hf0 : Blk (w.alloc (.cells #[.int .i64 0, .int .i64 0] 32)) w.heap.size 32 #[.int .i64 0, .int .i64 0] := heap_alloc_new w _
  go_enter Try.func56, Try.ntmps56
  go_wp2_with fail
  generalize w.alloc (.cells #[.int .i64 0, .int .i64 0] 32) = w0 at *
  refine (leavesB_bad w0 F _ l (hl.below hx0) hf).mono ?_
  rintro e w1 ⟨v1, a, b, rfl, hw, ha, hx1⟩
  have HW := Lib.hid hw
  clear hw hf
  have hx2 := hx0.trans (hx1.mono hx0.size)
  have hx3 := hx2.alloc hx2.size (.cells #[.int .i64 (a : Int), .int .i64 (b : Int)] 32)
  have hf3 := (hf0.below hx1 hf0.lt).alloc (.cells #[.int .i64 (a : Int), .int .i64 (b : Int)] 32)
  have hg3 : Blk (w1.alloc (.cells #[.int .i64 (a : Int), .int .i64 (b : Int)] 32)) w1.heap.size 32 #[.int .i64 (a : Int), .int .i64 (b : Int)] := heap_alloc_new w1 _
  have hlt : w.heap.size < w1.heap.size := (hf0.below hx1 hf0.lt).lt
  go_upto_region 3 with (fail)
  generalize w1.alloc (.cells #[.int .i64 (a : Int), .int .i64 (b : Int)] 32) = w3 at *
  generalize w1.heap.size = g at *
  have b0 : w3.cell? ⟨w.heap.size, 0, none⟩ = some (.int .i64 0) := hf3.cell 0
  have b1 : w3.cell? ⟨w.heap.size, 1, none⟩ = some (.int .i64 0) := hf3.cell 1
  have g0 : w3.cell? ⟨g, 0, none⟩ = some (.int .i64 (a : Int)) := hg3.cell 0
  have g1 : w3.cell? ⟨g, 1, none⟩ = some (.int .i64 (b : Int)) := hg3.cell 1
  have f2 := hf3.frozen 0
  have f3 := hf3.frozen 1
  have n2 : ¬ w.heap.size = g := by omega
  have n4 : ¬ g = w.heap.size := by omega
  have p2' := Blk.drewN (hf3.set2 (.int .i64 (a : Int)) (.int .i64 (b : Int))) 1
  have p3' := (below_set2 (g := w.heap.size) hx3 (Nat.le_refl _) (.int .i64 (a : Int)) (.int .i64 (b : Int))).drew
  go_region
  go_wp2_with fail
  generalize hW : (((w3.setCell ⟨w.heap.size, 0, none⟩ (.int .i64 (a : Int))).setCell ⟨w.heap.size, 1, none⟩ (.int .i64 (b : Int)))).drew = w4 at *
  have p2 : Blk w4 w.heap.size 32 #[.int .i64 (a : Int), .int .i64 (b : Int)] := by rw [← hW]; exact p2'
  have d2 : w4.cell? ⟨w.heap.size, 0, none⟩ = some (.int .i64 (a : Int)) := p2.cell 0
  have d3 : w4.cell? ⟨w.heap.size, 1, none⟩ = some (.int .i64 (b : Int)) := p2.cell 1
  exact bodyPost_ret (v := .tuple #[.slice none 0 0, .agg #[.int .i64 (a : Int), .int .i64 (b : Int)]]) (by simp [results, Try.results56, go_sem, d2, d3]) rfl ⟨a, b, rfl, HW.out, ha, p3'⟩

set_option maxRecDepth 100000 in
set_option maxHeartbeats 2000000 in
theorem BGrows_fine (w : World) (F : Nat → Prop) (v : Value) (l : List Rec) (z : Int) (hl : RdL w F v l) (hf : Bk.FineB l) (h0 : 1 ≤ z) (h1 : z ≤ l.length) :
    Calls Try.prog 57 #[v, .int .i64 z] w fun e w' => ∃ rv, e = .returned (.tuple #[rv, .agg #[.int .i64 0, .int .i64 0]]) ∧ OwnL w' w.heap.size rv (Tr.grows ((Bk.rows l).map Tr.leafH) z.toNat true) ∧ Below w.heap.size w w' := by
  obtain ⟨A, c, hv, hlc, hcm⟩ := hl.form
  subst hv
  unfold maxLen at hcm
  obtain ⟨R, HR⟩ : ∃ R, Hid (R = Tr.grows ((Bk.rows l).map Tr.leafH) z.toNat true) := ⟨_, Lib.hid rfl⟩
  rw [← HR.out]
  have hx0 := (Below.refl w.heap.size w).alloc (Nat.le_refl _) (.cells #[.int .i64 0, .int .i64 0] 32)
  have hf0 : Blk (w.alloc (.cells #[.int .i64 0, .int .i64 0] 32)) w.heap.size 32 #[.int .i64 0, .int .i64 0] := heap_alloc_new w _
  go_enter Try.func57, Try.ntmps57
  go_wp2_with fail
  generalize w.alloc (.cells #[.int .i64 0, .int .i64 0] 32) = w0 at *
  refine (leavesB_fine w0 F _ l (hl.below hx0) hf).mono ?_
  rintro e w1 ⟨v1, rfl, hown1, hx1⟩
  have hx2 := hx0.trans (hx1.mono hx0.size)
  have hx3 := hx2.alloc hx2.size (.cells #[.int .i64 0, .int .i64 0] 32)
  have hf3 := (hf0.below hx1 hf0.lt).alloc (.cells #[.int .i64 0, .int .i64 0] 32)
  have hb3 := hown1.blist.alloc (.cells #[.int .i64 0, .int .i64 0] 32)
  obtain ⟨A1, c1, hv1, _⟩ := hb3.shape
  subst hv1
  have HF := Lib.hid (fine_rows hf)
  have HL : Hid ((Bk.rows l).length = l.length) := Lib.hid (by unfold Bk.rows; rw [List.length_map])
  clear hf hown1
  go_wp2_with fail
  generalize w1.alloc (.cells #[.int .i64 0, .int .i64 0] 32) = w3 at *
  refine (Grows_fine w3 _ _ _ z hb3 HF.out (by omega) (by rw [HL.out]; omega)).mono ?_
  rw [← HR.out]
  rintro e w4 ⟨v4, rfl, hown4, hx4⟩
  have hx5 := hx3.trans (hx4.mono hx3.size)
  have hf5 := hf3.below hx4 hf3.lt
  obtain ⟨vs, ho, hin⟩ := hown4
  obtain ⟨A3, c3, hv4, _, _⟩ := Own.shape ho
  subst hv4
  have b0 : w4.cell? ⟨w.heap.size, 0, none⟩ = some (.int .i64 0) := hf5.cell 0
  have b1 : w4.cell? ⟨w.heap.size, 1, none⟩ = some (.int .i64 0) := hf5.cell 1
  have f2 := hf5.frozen 0
  have f3 := hf5.frozen 1
  go_wp2_with fail
  have hf6 := hf5.set2 (.int .i64 0) (.int .i64 0)
  have hx6 := below_set2 (g := w.heap.size) hx5 (Nat.le_refl _) (.int .i64 0) (.int .i64 0)
  have hoL : OwnL ((w4.setCell ⟨w.heap.size, 0, none⟩ (.int .i64 0)).setCell ⟨w.heap.size, 1, none⟩ (.int .i64 0)) w.heap.size (.slice A3 R.length c3) R :=
    ⟨vs, (Own.set2 ho (Own.ne_blk ho hf5 (by decide)) _ _).mono hx3.size, fun i b hb => by
      obtain ⟨u, hu, hu2⟩ := hin i b hb
      exact ⟨u, hu, (Own.set2 hu2 (Own.ne_blk hu2 hf5 (by decide)) _ _).mono hx3.size⟩⟩
  generalize ((w4.setCell ⟨w.heap.size, 0, none⟩ (.int .i64 0)).setCell ⟨w.heap.size, 1, none⟩ (.int .i64 0)) = w6 at *
  have d2 : w6.cell? ⟨w.heap.size, 0, none⟩ = some (.int .i64 0) := hf6.cell 0
  have d3 : w6.cell? ⟨w.heap.size, 1, none⟩ = some (.int .i64 0) := hf6.cell 1
  exact bodyPost_ret (v := .tuple #[.slice A3 R.length c3, .agg #[.int .i64 0, .int .i64 0]]) (by simp [results, Try.results57, go_sem, d2, d3]) rfl ⟨_, rfl, hoL, hx6⟩

set_option maxRecDepth 100000 in
set_option maxHeartbeats 2000000 in
theorem BGrows_none (w : World) (F : Nat → Prop) (v : Value) (l : List Rec) (z : Int) (hl : RdL w F v l) (hf : Bk.FineB l) (hz : ¬ (1 ≤ z ∧ z ≤ l.length)) :
    Calls Try.prog 57 #[v, .int .i64 z] w fun e w' => e = .returned (.tuple #[.slice none 0 0, .agg #[.int .i64 3, .int .i64 0]]) ∧ Below w.heap.size w w' := by
  obtain ⟨A, c, hv, hlc, hcm⟩ := hl.form
  subst hv
  unfold maxLen at hcm
  have hx0 := (Below.refl w.heap.size w).alloc (Nat.le_refl _) (.cells #[.int .i64 0, .int .i64 0] 32)
  have hf0 : Blk (w.alloc (.cells #[.int .i64 0, .int .i64 0] 32)) w.heap.size 32 #[.int .i64 0, .int .i64 0] := heap_alloc_new w _
  have HZ := Lib.hid hz
  clear hz
  go_enter Try.func57, Try.ntmps57
  go_wp2_with fail
  generalize w.alloc (.cells #[.int .i64 0, .int .i64 0] 32) = w0 at *
  refine (leavesB_fine w0 F _ l (hl.below hx0) hf).mono ?_
  rintro e w1 ⟨v1, rfl, hown1, hx1⟩
  have hx2 := hx0.trans (hx1.mono hx0.size)
  have hx3 := hx2.alloc hx2.size (.cells #[.int .i64 0, .int .i64 0] 32)
  have hf3 := (hf0.below hx1 hf0.lt).alloc (.cells #[.int .i64 0, .int .i64 0] 32)
  have hb3 := hown1.blist.alloc (.cells #[.int .i64 0, .int .i64 0] 32)
  obtain ⟨A1, c1, hv1, _⟩ := hb3.shape
  subst hv1
  have HF := Lib.hid (fine_rows hf)
  have HL : Hid ((Bk.rows l).length = l.length) := Lib.hid (by unfold Bk.rows; rw [List.length_map])
  clear hf hown1
  go_wp2_with fail
  generalize w1.alloc (.cells #[.int .i64 0, .int .i64 0] 32) = w3 at *
  refine (Grows_none w3 _ _ _ z hb3 HF.out (by rw [HL.out]; exact HZ.out)).mono ?_
  rintro e w4 ⟨rfl, hx4⟩
  have hx5 := hx3.trans (hx4.mono hx3.size)
  have hf5 := hf3.below hx4 hf3.lt
  have b0 : w4.cell? ⟨w.heap.size, 0, none⟩ = some (.int .i64 0) := hf5.cell 0
  have b1 : w4.cell? ⟨w.heap.size, 1, none⟩ = some (.int .i64 0) := hf5.cell 1
  have f2 := hf5.frozen 0
  have f3 := hf5.frozen 1
  go_wp2_with fail
  have hf6 := hf5.set2 (.int .i64 3) (.int .i64 0)
  have hx6 := below_set2 (g := w.heap.size) hx5 (Nat.le_refl _) (.int .i64 3) (.int .i64 0)
  generalize ((w4.setCell ⟨w.heap.size, 0, none⟩ (.int .i64 3)).setCell ⟨w.heap.size, 1, none⟩ (.int .i64 0)) = w6 at *
  have d2 : w6.cell? ⟨w.heap.size, 0, none⟩ = some (.int .i64 3) := hf6.cell 0
  have d3 : w6.cell? ⟨w.heap.size, 1, none⟩ = some (.int .i64 0) := hf6.cell 1
  exact bodyPost_ret (v := .tuple #[.slice none 0 0, .agg #[.int .i64 3, .int .i64 0]]) (by simp [results, Try.results57, go_sem, d2, d3]) rfl ⟨rfl, hx6⟩

set_option maxRecDepth 100000 in
set_option maxHeartbeats 2000000 in
theorem BGrows_bad (w : World) (F : Nat → Prop) (v : Value) (l : List Rec) (z : Int) (hl : RdL w F v l) (hf : ¬ Bk.FineB l) :
    Calls Try.prog 57 #[v, .int .i64 z] w fun e w' => ∃ a b : Nat, e = .returned (.tuple #[.slice none 0 0, .agg #[.int .i64 (a : Int), .int .i64 (b : Int)]]) ∧ Bk.wrongB l = (a, b) ∧ ((a : Int) != 0) = true ∧ Below w.heap.size w w' := by
  obtain ⟨A, c, hv, hlc, hcm⟩ := hl.form
  subst hv
  unfold maxLen at hcm
  have hx0 := (Below.refl w.heap.size w).alloc (Nat.le_refl _) (.cells #[.int .i64 0, .int .i64 0] 32)
  have hf0 : Blk (w.alloc (.cells #[.int .i64 0, .int .i64 0] 32)) w.heap.size 32 #[.int .i64 0, .int .i64 0] := heap_alloc_new w _
  go_enter Try.func57, Try.ntmps57
  go_wp2_with fail
  generalize w.alloc (.cells #[.int .i64 0, .int .i64 0] 32) = w0 at *
  refine (leavesB_bad w0 F _ l (hl.below hx0) hf).mono ?_
  rintro e w1 ⟨v1, a, b, rfl, hw, ha, hx1⟩
  have HW := Lib.hid hw
  clear hw hf
  have hx2 := hx0.trans (hx1.mono hx0.size)
  have hx3 := hx2.alloc hx2.size (.cells #[.int .i64 (a : Int), .int .i64 (b : Int)] 32)
  have hf3 := (hf0.below hx1 hf0.lt).alloc (.cells #[.int .i64 (a : Int), .int .i64 (b : Int)] 32)
  have hg3 : Blk (w1.alloc (.cells #[.int .i64 (a : Int), .int .i64 (b : Int)] 32)) w1.heap.size 32 #[.int .i64 (a : Int), .int .i64 (b : Int)] := heap_alloc_new w1 _
  have hlt : w.heap.size < w1.heap.size := (hf0.below hx1 hf0.lt).lt
  go_upto_region 3 with (fail)
  generalize w1.alloc (.cells #[.int .i64 (a : Int), .int .i64 (b : Int)] 32) = w3 at *
  generalize w1.heap.size = g at *
  have b0 : w3.cell? ⟨w.heap.size, 0, none⟩ = some (.int .i64 0) := hf3.cell 0
  have b1 : w3.cell? ⟨w.heap.size, 1, none⟩ = some (.int .i64 0) := hf3.cell 1
  have g0 : w3.cell? ⟨g, 0, none⟩ = some (.int .i64 (a : Int)) := hg3.cell 0
  have g1 : w3.cell? ⟨g, 1, none⟩ = some (.int .i64 (b : Int)) := hg3.cell 1
  have f2 := hf3.frozen 0
  have f3 := hf3.frozen 1
  have n2 : ¬ w.heap.size = g := by omega
  have n4 : ¬ g = w.heap.size := by omega
  have p2' := Blk.drewN (hf3.set2 (.int .i64 (a : Int)) (.int .i64 (b : Int))) 1
  have p3' := (below_set2 (g := w.heap.size) hx3 (Nat.le_refl _) (.int .i64 (a : Int)) (.int .i64 (b : Int))).drew
  go_region
  go_wp2_with fail
  generalize hW : (((w3.setCell ⟨w.heap.size, 0, none⟩ (.int .i64 (a : Int))).setCell ⟨w.heap.size, 1, none⟩ (.int .i64 (b : Int)))).drew = w4 at *
  have p2 : Blk w4 w.heap.size 32 #[.int .i64 (a : Int), .int .i64 (b : Int)] := by rw [← hW]; exact p2'
  have d2 : w4.cell? ⟨w.heap.size, 0, none⟩ = some (.int .i64 (a : Int)) := p2.cell 0
  have d3 : w4.cell? ⟨w.heap.size, 1, none⟩ = some (.int .i64 (b : Int)) := p2.cell 1
  exact bodyPost_ret (v := .tuple #[.slice none 0 0, .agg #[.int .i64 (a : Int), .int .i64 (b : Int)]]) (by simp [results, Try.results57, go_sem, d2, d3]) rfl ⟨a, b, rfl, HW.out, ha, p3'⟩
end Go.Proofs.Ytfdibjgmbdkbcaa
