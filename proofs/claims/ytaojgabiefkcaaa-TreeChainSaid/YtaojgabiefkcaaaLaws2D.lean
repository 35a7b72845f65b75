/-
  THE WALK of yearlaw2.TreeChain. Conditions: what comes in is read as lists of bytes.
-/
import Derived.Test.YtaojgabiefkcaaaLaws2A
namespace Go.Proofs.Ytaojgabiefkcaaa
open Go.RowKit Go.Lib

theorem fieldErr (a b : Int) (w : World) : (Instr.field 32 (.agg #[.int .i64 a, .int .i64 b]) 0).run Try.prog w = .ok (.int .i64 a) w := by kernel_rfl

set_option maxRecDepth 100000 in
set_option maxHeartbeats 4000000 in
theorem treeChain_walk (w : World) (v : Value) (ll : List Bs) (hl : BList w (fun _ => True) v ll) (za zb : Int) :
    Calls Try.prog 7 #[v, .int .i64 za, .int .i64 zb] w fun e w' => e = .returned (.bool true) ∧ Below w.heap.size w w' := by
  obtain ⟨A, c, hv, hlc, hcm, _⟩ := hl.shape
  subst hv
  unfold maxLen at hcm
  have hok := wrongS_ok ll
  have HOK := Lib.hid hok
  have HFL : Fine ll → Hid (Fine ll) := fun h => Lib.hid h
  clear hok
  go_enter Try.func7, Try.ntmps7
  go_wp2_with fail
  refine (alive2 w).mono ?_
  rintro e w1 ⟨rfl, hx1⟩
  have hl1 := hl.below hx1
  go_wp2_with fail
  refine (wrong_any w1 _ _ ll hl1).mono ?_
  rintro e w2 ⟨rfl, hx2⟩
  have hxb := hx1.trans (hx2.mono hx1.size)
  unfold fv
  generalize wrongS ll = pp at *
  obtain ⟨pa, pb⟩ := pp
  dsimp only at HOK ⊢
  have hfe := fieldErr (pa : Int) (pb : Int)
  by_cases hpa : pa = 0
  · have hf : Fine ll := HOK.out.1 hpa
    have hn := hf.1
    have HF := Lib.hid hf
    have hB0 : ((pa : Int) != 0) = false := by rw [bne_eq_false_iff_eq]; omega
    clear hf hpa HOK HFL
    have hcase : za < 1 ∨ (¬ za < 1 ∧ zb < za) ∨ (¬ za < 1 ∧ ¬ zb < za ∧ (ll.length : Int) < zb) ∨ (¬ za < 1 ∧ ¬ zb < za ∧ ¬ (ll.length : Int) < zb) := by omega
    rcases hcase with h1 | ⟨h1, h2⟩ | ⟨h1, h2, h3⟩ | ⟨h1, h2, h3⟩
    · have t1 : decide (za < 1) = true := decide_eq_true h1
      go_wp2_with fail
      go_ret
      exact ⟨rfl, hxb⟩
    · have t1 : decide (za < 1) = false := decide_eq_false h1
      have t2 : decide (zb < za) = true := decide_eq_true h2
      go_wp2_with fail
      go_ret
      exact ⟨rfl, hxb⟩
    · have t1 : decide (za < 1) = false := decide_eq_false h1
      have t2 : decide (zb < za) = false := decide_eq_false h2
      have t3 : decide ((ll.length : Int) < zb) = true := decide_eq_true h3
      go_wp2_with fail
      go_ret
      exact ⟨rfl, hxb⟩
    · obtain ⟨a, ha⟩ : ∃ k : Nat, za = (k : Int) := ⟨za.toNat, by omega⟩
      obtain ⟨b, hb⟩ : ∃ k : Nat, zb = (k : Int) := ⟨zb.toNat, by omega⟩
      subst ha hb
      have t1 : decide ((a : Int) < 1) = false := decide_eq_false h1
      have t2 : decide (b < a) = false := decide_eq_false (by omega)
      have t3 : decide (ll.length < b) = false := decide_eq_false (by omega)
      have g1 := grewS_grows (ll.take b) (HF.out.take b) a (by omega) (by rw [List.length_take]; omega)
      have g2 := grewS_grows ll HF.out b (by omega) (by omega)
      have g3 := grewS_grows ll HF.out a (by omega) (by omega)
      have l1 : (Tr.grows ((ll.take b).map Tr.leafH) a true).length ≤ 8 := grows_le7 (n := b) (by simp; omega) (by omega) a true
      have l2 : (Tr.grows (ll.map Tr.leafH) b true).length ≤ 8 := grows_le7 (n := ll.length) (by simp) (by omega) b true
      have l3 : (Tr.grows (ll.map Tr.leafH) a true).length ≤ 8 := grows_le7 (n := ll.length) (by simp) (by omega) a true
      have hlb : (ll.take b).length = b := by rw [List.length_take]; omega
      rw [hlb, List.take_take, Nat.min_eq_left (by omega)] at g1
      have htn : ll.take ll.length = ll := List.take_length
      obtain ⟨Ra, hRa⟩ : ∃ R, R = Tr.root ((ll.take a).map Tr.leafH) := ⟨_, rfl⟩
      obtain ⟨Rb, hRb⟩ : ∃ R, R = Tr.root ((ll.take b).map Tr.leafH) := ⟨_, rfl⟩
      obtain ⟨Rn, hRn⟩ : ∃ R, R = Tr.root ((ll.take ll.length).map Tr.leafH) := ⟨_, rfl⟩
      have hRn2 : Tr.root (ll.map Tr.leafH) = Rn := by rw [hRn, htn]
      rw [← hRa, ← hRb] at g1
      rw [← hRb, hRn2] at g2
      rw [← hRa, hRn2] at g3
      have G1 := Lib.hid g1
      have G2 := Lib.hid g2
      have G3 := Lib.hid g3
      have L1 := Lib.hid l1
      have L2 := Lib.hid l2
      have L3 := Lib.hid l3
      have HRa := Lib.hid hRa
      have HRb := Lib.hid hRb
      have HRn := Lib.hid hRn
      have HLB := Lib.hid hlb
      have hw2 : w.heap.size ≤ w2.heap.size := hxb.size
      have hab : a ≤ b := by omega
      have hbl : b ≤ ll.length := by omega
      have ha1 : 1 ≤ a := by omega
      clear g1 g2 g3 l1 l2 l3 hRa hRb hRn hRn2 htn hlb h1 h2 hl1 h3
      go_wp2_with fail
      go_loopg [45] 3 (fun k i wr => ∃ j : Nat, j + k = 3 ∧ i = .int .i64 (j : Int) ∧ Below w.heap.size w wr ∧ Blk wr (w2.heap.size + 1) 3 #[.int .i64 (a : Int), .int .i64 (b : Int), .int .i64 (ll.length : Int)] ∧ ((j = 0 ∧ Blk wr w2.heap.size 41 #[.int .i64 0, .slice none 0 0, .int .i64 0, .slice none 0 0, .int .i64 0, .slice none 0 0]) ∨ (j = 1 ∧ ∃ u0 : Value, Blk wr w2.heap.size 41 #[.int .i64 (a : Int), u0, .int .i64 0, .slice none 0 0, .int .i64 0, .slice none 0 0] ∧ OwnB wr w.heap.size u0 Ra) ∨ (j = 2 ∧ ∃ u0 u1 : Value, Blk wr w2.heap.size 41 #[.int .i64 (a : Int), u0, .int .i64 (b : Int), u1, .int .i64 0, .slice none 0 0] ∧ OwnB wr w.heap.size u0 Ra ∧ OwnB wr w.heap.size u1 Rb) ∨ (j = 3 ∧ ∃ u0 u1 u2 : Value, Blk wr w2.heap.size 41 #[.int .i64 (a : Int), u0, .int .i64 (b : Int), u1, .int .i64 (ll.length : Int), u2] ∧ OwnB wr w.heap.size u0 Ra ∧ OwnB wr w.heap.size u1 Rb ∧ OwnB wr w.heap.size u2 Rn)))
      case atStart => exact ⟨0, rfl, rfl, (hxb.alloc hw2 _).alloc (by simp; omega) _, by have := heap_alloc_new (w2.alloc (.cells #[.int .i64 0, .slice none 0 0, .int .i64 0, .slice none 0 0, .int .i64 0, .slice none 0 0] 41)) (.cells #[.int .i64 (a : Int), .int .i64 (b : Int), .int .i64 (ll.length : Int)] 3); rwa [World.size_alloc] at this, .inl ⟨rfl, Blk.alloc (heap_alloc_new w2 _) _⟩⟩
      case round =>
        obtain ⟨j, hj, rfl, hx, hI, hor⟩ := hrel
        rcases hor with hor | hor | hor | hor
        · obtain ⟨rfl, hG⟩ := hor
          have hltB : ((0 : Nat) : Int) < 3 := by decide
          have hci : wr.cell? ⟨w2.heap.size + 1, 0, none⟩ = some (.int .i64 (a : Int)) := hI.cell 0
          have hlr := (hl.below hx).first a (by omega)
          have hnc : (a : Int) ≤ (c : Int) := by omega
          go_wp2_with fail
          refine (Root_fine wr _ _ (ll.take a) hlr (HF.out.take a)).mono ?_
          rintro e w4 ⟨rv, rfl, hown4, hx4⟩
          rw [show Tr.root ((ll.take a).map Tr.leafH) = Ra from HRa.out.symm] at hown4
          have hx5 := hx.trans (hx4.mono hx.size)
          obtain ⟨A9, c9, hv9, _, _⟩ := Own.shape hown4
          subst hv9
          have hG4 := hG.below hx4 hG.lt
          have hI4 := hI.below hx4 hI.lt
          have hG5 := hG4.alloc (.cells #[.int .i64 0, .int .i64 0] 32)
          have hI5 := hI4.alloc (.cells #[.int .i64 0, .int .i64 0] 32)
          have hx6 := hx5.alloc hx5.size (.cells #[.int .i64 0, .int .i64 0] 32)
          have ho5 := OwnB.alloc (OwnB.mono hown4 hx.size) (.cells #[.int .i64 0, .int .i64 0] 32)
          have hgl := hG4.lt
          have k0 := hG4.frozen 0
          have k1 := hG4.frozen 1
          have q0 : w4.cell? ⟨w2.heap.size, 0, none⟩ = some (.int .i64 0) := hG4.cell 0
          have q1 : w4.cell? ⟨w2.heap.size, 1, none⟩ = some (.slice none 0 0) := hG4.cell 1
          have hne := Own.ne_blk hown4 hG4 (by decide)
          have hG6 := ((hG4.set_ 0 (.int .i64 (a : Int))).set_ 1 (.slice A9 Ra.length c9)).alloc (.cells #[.int .i64 0, .int .i64 0] 32)
          have hI6 := ((hI4.far (p := ⟨w2.heap.size, 0, none⟩) (by show w2.heap.size + 1 ≠ w2.heap.size; omega) (.int .i64 (a : Int))).far (p := ⟨w2.heap.size, 1, none⟩) (by show w2.heap.size + 1 ≠ w2.heap.size; omega) (.slice A9 Ra.length c9)).alloc (.cells #[.int .i64 0, .int .i64 0] 32)
          have hx7 := ((hx5.setCell (p := ⟨w2.heap.size, 0, none⟩) hw2 (.int .i64 (a : Int))).setCell (p := ⟨w2.heap.size, 1, none⟩) hw2 (.slice A9 Ra.length c9)).alloc (by simpa using hx5.size) (.cells #[.int .i64 0, .int .i64 0] 32)
          have ho6 := OwnB.alloc (Own.setCell (p := ⟨w2.heap.size, 1, none⟩) (Own.setCell (p := ⟨w2.heap.size, 0, none⟩) (OwnB.mono hown4 hx.size) hne (.int .i64 (a : Int))) hne (.slice A9 Ra.length c9)) (.cells #[.int .i64 0, .int .i64 0] 32)
          clear hG5 hI5 hx6 ho5 hlr
          go_wp2_with fail
          go_roundg (gk - 1)
          case measure => omega
          case rel => exact ⟨1, by omega, rfl, hx7, hI6, .inr (.inl ⟨rfl, _, hG6, ho6⟩)⟩
        · obtain ⟨rfl, u0, hG, o0⟩ := hor
          obtain ⟨Aq0, cq0, hq0, _, _⟩ := Own.shape o0
          subst hq0
          have hltB : ((1 : Nat) : Int) < 3 := by decide
          have hci : wr.cell? ⟨w2.heap.size + 1, 1, none⟩ = some (.int .i64 (b : Int)) := hI.cell 1
          have hlr := (hl.below hx).first b (by omega)
          have hnc : (b : Int) ≤ (c : Int) := by omega
          go_wp2_with fail
          refine (Root_fine wr _ _ (ll.take b) hlr (HF.out.take b)).mono ?_
          rintro e w4 ⟨rv, rfl, hown4, hx4⟩
          rw [show Tr.root ((ll.take b).map Tr.leafH) = Rb from HRb.out.symm] at hown4
          have hx5 := hx.trans (hx4.mono hx.size)
          obtain ⟨A9, c9, hv9, _, _⟩ := Own.shape hown4
          subst hv9
          have hG4 := hG.below hx4 hG.lt
          have hI4 := hI.below hx4 hI.lt
          have o04 := OwnB.below o0 hx4
          have hG5 := hG4.alloc (.cells #[.int .i64 0, .int .i64 0] 32)
          have hI5 := hI4.alloc (.cells #[.int .i64 0, .int .i64 0] 32)
          have hx6 := hx5.alloc hx5.size (.cells #[.int .i64 0, .int .i64 0] 32)
          have ho5 := OwnB.alloc (OwnB.mono hown4 hx.size) (.cells #[.int .i64 0, .int .i64 0] 32)
          have o05 := OwnB.alloc o04 (.cells #[.int .i64 0, .int .i64 0] 32)
          have hgl := hG4.lt
          have k0 := hG4.frozen 2
          have k1 := hG4.frozen 3
          have q0 : w4.cell? ⟨w2.heap.size, 2, none⟩ = some (.int .i64 0) := hG4.cell 2
          have q1 : w4.cell? ⟨w2.heap.size, 3, none⟩ = some (.slice none 0 0) := hG4.cell 3
          have hne := Own.ne_blk hown4 hG4 (by decide)
          have hne0 := Own.ne_blk o04 hG4 (by decide)
          have hG6 := ((hG4.set_ 2 (.int .i64 (b : Int))).set_ 3 (.slice A9 Rb.length c9)).alloc (.cells #[.int .i64 0, .int .i64 0] 32)
          have hI6 := ((hI4.far (p := ⟨w2.heap.size, 2, none⟩) (by show w2.heap.size + 1 ≠ w2.heap.size; omega) (.int .i64 (b : Int))).far (p := ⟨w2.heap.size, 3, none⟩) (by show w2.heap.size + 1 ≠ w2.heap.size; omega) (.slice A9 Rb.length c9)).alloc (.cells #[.int .i64 0, .int .i64 0] 32)
          have hx7 := ((hx5.setCell (p := ⟨w2.heap.size, 2, none⟩) hw2 (.int .i64 (b : Int))).setCell (p := ⟨w2.heap.size, 3, none⟩) hw2 (.slice A9 Rb.length c9)).alloc (by simpa using hx5.size) (.cells #[.int .i64 0, .int .i64 0] 32)
          have ho6 := OwnB.alloc (Own.setCell (p := ⟨w2.heap.size, 3, none⟩) (Own.setCell (p := ⟨w2.heap.size, 2, none⟩) (OwnB.mono hown4 hx.size) hne (.int .i64 (b : Int))) hne (.slice A9 Rb.length c9)) (.cells #[.int .i64 0, .int .i64 0] 32)
          have o06 := OwnB.alloc (Own.setCell (p := ⟨w2.heap.size, 3, none⟩) (Own.setCell (p := ⟨w2.heap.size, 2, none⟩) o04 hne0 (.int .i64 (b : Int))) hne0 (.slice A9 Rb.length c9)) (.cells #[.int .i64 0, .int .i64 0] 32)
          clear hG5 hI5 hx6 ho5 hlr
          go_wp2_with fail
          go_roundg (gk - 1)
          case measure => omega
          case rel => exact ⟨2, by omega, rfl, hx7, hI6, .inr (.inr (.inl ⟨rfl, _, _, hG6, o06, ho6⟩))⟩
        · obtain ⟨rfl, u0, u1, hG, o0, o1⟩ := hor
          obtain ⟨Aq0, cq0, hq0, _, _⟩ := Own.shape o0
          subst hq0
          obtain ⟨Aq1, cq1, hq1, _, _⟩ := Own.shape o1
          subst hq1
          have hltB : ((2 : Nat) : Int) < 3 := by decide
          have hci : wr.cell? ⟨w2.heap.size + 1, 2, none⟩ = some (.int .i64 (ll.length : Int)) := hI.cell 2
          have hlr := (hl.below hx).first ll.length (by omega)
          have hnc : (ll.length : Int) ≤ (c : Int) := by omega
          go_wp2_with fail
          refine (Root_fine wr _ _ (ll.take ll.length) hlr (HF.out.take ll.length)).mono ?_
          rintro e w4 ⟨rv, rfl, hown4, hx4⟩
          rw [show Tr.root ((ll.take ll.length).map Tr.leafH) = Rn from HRn.out.symm] at hown4
          have hx5 := hx.trans (hx4.mono hx.size)
          obtain ⟨A9, c9, hv9, _, _⟩ := Own.shape hown4
          subst hv9
          have hG4 := hG.below hx4 hG.lt
          have hI4 := hI.below hx4 hI.lt
          have o04 := OwnB.below o0 hx4
          have o14 := OwnB.below o1 hx4
          have hG5 := hG4.alloc (.cells #[.int .i64 0, .int .i64 0] 32)
          have hI5 := hI4.alloc (.cells #[.int .i64 0, .int .i64 0] 32)
          have hx6 := hx5.alloc hx5.size (.cells #[.int .i64 0, .int .i64 0] 32)
          have ho5 := OwnB.alloc (OwnB.mono hown4 hx.size) (.cells #[.int .i64 0, .int .i64 0] 32)
          have o05 := OwnB.alloc o04 (.cells #[.int .i64 0, .int .i64 0] 32)
          have o15 := OwnB.alloc o14 (.cells #[.int .i64 0, .int .i64 0] 32)
          have hgl := hG4.lt
          have k0 := hG4.frozen 4
          have k1 := hG4.frozen 5
          have q0 : w4.cell? ⟨w2.heap.size, 4, none⟩ = some (.int .i64 0) := hG4.cell 4
          have q1 : w4.cell? ⟨w2.heap.size, 5, none⟩ = some (.slice none 0 0) := hG4.cell 5
          have hne := Own.ne_blk hown4 hG4 (by decide)
          have hne0 := Own.ne_blk o04 hG4 (by decide)
          have hne1 := Own.ne_blk o14 hG4 (by decide)
          have hG6 := ((hG4.set_ 4 (.int .i64 (ll.length : Int))).set_ 5 (.slice A9 Rn.length c9)).alloc (.cells #[.int .i64 0, .int .i64 0] 32)
          have hI6 := ((hI4.far (p := ⟨w2.heap.size, 4, none⟩) (by show w2.heap.size + 1 ≠ w2.heap.size; omega) (.int .i64 (ll.length : Int))).far (p := ⟨w2.heap.size, 5, none⟩) (by show w2.heap.size + 1 ≠ w2.heap.size; omega) (.slice A9 Rn.length c9)).alloc (.cells #[.int .i64 0, .int .i64 0] 32)
          have hx7 := ((hx5.setCell (p := ⟨w2.heap.size, 4, none⟩) hw2 (.int .i64 (ll.length : Int))).setCell (p := ⟨w2.heap.size, 5, none⟩) hw2 (.slice A9 Rn.length c9)).alloc (by simpa using hx5.size) (.cells #[.int .i64 0, .int .i64 0] 32)
          have ho6 := OwnB.alloc (Own.setCell (p := ⟨w2.heap.size, 5, none⟩) (Own.setCell (p := ⟨w2.heap.size, 4, none⟩) (OwnB.mono hown4 hx.size) hne (.int .i64 (ll.length : Int))) hne (.slice A9 Rn.length c9)) (.cells #[.int .i64 0, .int .i64 0] 32)
          have o06 := OwnB.alloc (Own.setCell (p := ⟨w2.heap.size, 5, none⟩) (Own.setCell (p := ⟨w2.heap.size, 4, none⟩) o04 hne0 (.int .i64 (ll.length : Int))) hne0 (.slice A9 Rn.length c9)) (.cells #[.int .i64 0, .int .i64 0] 32)
          have o16 := OwnB.alloc (Own.setCell (p := ⟨w2.heap.size, 5, none⟩) (Own.setCell (p := ⟨w2.heap.size, 4, none⟩) o14 hne1 (.int .i64 (ll.length : Int))) hne1 (.slice A9 Rn.length c9)) (.cells #[.int .i64 0, .int .i64 0] 32)
          clear hG5 hI5 hx6 ho5 hlr
          go_wp2_with fail
          go_roundg (gk - 1)
          case measure => omega
          case rel => exact ⟨3, by omega, rfl, hx7, hI6, .inr (.inr (.inr (⟨rfl, _, _, _, hG6, o06, o16, ho6⟩)))⟩
        · obtain ⟨rfl, u0, u1, u2, hG, o0, o1, o2⟩ := hor
          have hltB : decide (((3 : Nat) : Int) < 3) = false := by decide
          have hbc : (b : Int) ≤ (c : Int) := by omega
          have hlb := (hl.below hx).first b hbl
          have hw3 := hx.size
          clear hI
          go_wp2_with fail
          refine (Grows_fine _ _ _ (ll.take b) (a : Int) hlb (HF.out.take b) (by omega) (by rw [HLB.out]; omega)).mono ?_
          rintro e y0 ⟨gv0, rfl, howng0, hy0⟩
          rw [Int.toNat_natCast] at howng0
          generalize Tr.grows ((ll.take b).map Tr.leafH) a true = P0 at *
          have hbg0 := howng0.blist
          obtain ⟨B0, d0, hv0, _, _, _⟩ := hbg0.shape
          subst hv0
          have z0 := hx.trans (hy0.mono hw3)
          have zz0 := z0.alloc z0.size (.cells #[.int .i64 0, .int .i64 0] 32)
          have G0 := (hG.below hy0 hG.lt).alloc (.cells #[.int .i64 0, .int .i64 0] 32)
          have q0 := (OwnB.below o0 hy0).alloc (.cells #[.int .i64 0, .int .i64 0] 32)
          have q1 := (OwnB.below o1 hy0).alloc (.cells #[.int .i64 0, .int .i64 0] 32)
          have q2 := (OwnB.below o2 hy0).alloc (.cells #[.int .i64 0, .int .i64 0] 32)
          have e0 : Blk (y0.alloc (.cells #[.int .i64 0, .int .i64 0] 32)) y0.heap.size 32 #[.int .i64 0, .int .i64 0] := heap_alloc_new y0 _
          have bg0 := hbg0.alloc (.cells #[.int .i64 0, .int .i64 0] 32)
          go_wp2_with fail
          generalize (y0.alloc (.cells #[.int .i64 0, .int .i64 0] 32)) = s0 at *
          refine (Grows_fine _ _ _ ll (b : Int) (hl.below zz0) HF.out (by omega) (by omega)).mono ?_
          rintro e y1 ⟨gv1, rfl, howng1, hy1⟩
          rw [Int.toNat_natCast] at howng1
          generalize Tr.grows (ll.map Tr.leafH) b true = P1 at *
          have hbg1 := howng1.blist
          obtain ⟨B1, d1, hv1, _, _, _⟩ := hbg1.shape
          subst hv1
          have z1 := zz0.trans (hy1.mono zz0.size)
          have zz1 := z1.alloc z1.size (.cells #[.int .i64 0, .int .i64 0] 32)
          have G1' := (G0.below hy1 G0.lt).alloc (.cells #[.int .i64 0, .int .i64 0] 32)
          have q01 := (OwnB.below q0 hy1).alloc (.cells #[.int .i64 0, .int .i64 0] 32)
          have q11 := (OwnB.below q1 hy1).alloc (.cells #[.int .i64 0, .int .i64 0] 32)
          have q21 := (OwnB.below q2 hy1).alloc (.cells #[.int .i64 0, .int .i64 0] 32)
          have e01 := (e0.below hy1 e0.lt).alloc (.cells #[.int .i64 0, .int .i64 0] 32)
          have e1 : Blk (y1.alloc (.cells #[.int .i64 0, .int .i64 0] 32)) y1.heap.size 32 #[.int .i64 0, .int .i64 0] := heap_alloc_new y1 _
          have bg01 := (bg0.below hy1).alloc (.cells #[.int .i64 0, .int .i64 0] 32)
          have bg1 := hbg1.alloc (.cells #[.int .i64 0, .int .i64 0] 32)
          clear G0 q0 q1 q2 e0 bg0 hbg1
          go_wp2_with fail
          generalize (y1.alloc (.cells #[.int .i64 0, .int .i64 0] 32)) = s1 at *
          refine (Grows_fine _ _ _ ll (a : Int) (hl.below zz1) HF.out (by omega) (by omega)).mono ?_
          rintro e y2 ⟨gv2, rfl, howng2, hy2⟩
          rw [Int.toNat_natCast] at howng2
          generalize Tr.grows (ll.map Tr.leafH) a true = P2 at *
          have hbg2 := howng2.blist
          obtain ⟨B2, d2, hv2, _, _, _⟩ := hbg2.shape
          subst hv2
          have z2 := zz1.trans (hy2.mono zz1.size)
          have zz2 := z2.alloc z2.size (.cells #[.int .i64 0, .int .i64 0] 32)
          have G2' := G1'.below hy2 G1'.lt
          have q02 := (OwnB.below q01 hy2).alloc (.cells #[.int .i64 0, .int .i64 0] 32)
          have q12 := (OwnB.below q11 hy2).alloc (.cells #[.int .i64 0, .int .i64 0] 32)
          have q22 := (OwnB.below q21 hy2).alloc (.cells #[.int .i64 0, .int .i64 0] 32)
          have e02 := e01.below hy2 e01.lt
          have e12 := e1.below hy2 e1.lt
          have bg02 := (bg01.below hy2).alloc (.cells #[.int .i64 0, .int .i64 0] 32)
          have bg12 := (bg1.below hy2).alloc (.cells #[.int .i64 0, .int .i64 0] 32)
          have bg2 := hbg2.alloc (.cells #[.int .i64 0, .int .i64 0] 32)
          clear G1' q01 q11 q21 e01 e1 bg01 bg1 hbg2 hbg0
          obtain ⟨Aq0, cq0, hq0, _, _⟩ := Own.shape q02
          subst hq0
          obtain ⟨Aq1, cq1, hq1, _, _⟩ := Own.shape q12
          subst hq1
          obtain ⟨Aq2, cq2, hq2, _, _⟩ := Own.shape q22
          subst hq2
          have c00 : y2.cell? ⟨w2.heap.size, 0, none⟩ = some (.int .i64 (a : Int)) := G2'.cell 0
          have c01 : y2.cell? ⟨w2.heap.size, 1, none⟩ = some (.slice Aq0 Ra.length cq0) := G2'.cell 1
          have c02 : y2.cell? ⟨w2.heap.size, 2, none⟩ = some (.int .i64 (b : Int)) := G2'.cell 2
          have c03 : y2.cell? ⟨w2.heap.size, 3, none⟩ = some (.slice Aq1 Rb.length cq1) := G2'.cell 3
          have c04 : y2.cell? ⟨w2.heap.size, 4, none⟩ = some (.int .i64 (ll.length : Int)) := G2'.cell 4
          have c05 : y2.cell? ⟨w2.heap.size, 5, none⟩ = some (.slice Aq2 Rn.length cq2) := G2'.cell 5
          have d0' : y2.cell? ⟨y0.heap.size, 0, none⟩ = some (.int .i64 0) := e02.cell 0
          have d1' : y2.cell? ⟨y1.heap.size, 0, none⟩ = some (.int .i64 0) := e12.cell 0
          have n0 := G2'.lt
          have n1 := e02.lt
          have n2 := e12.lt
          clear G2' e02 e12
          go_wp2_with fail
          refine (grew_any _ _ _ _ _ _ _ (a : Int) (b : Int) Ra Rb _ (OwnB.bytes q02) (OwnB.bytes q12) bg02 (by have := L1.out; omega)).mono ?_
          rintro e t0 ⟨rfl, ht0⟩
          rw [G1.out]
          have c02 := (ht0.cell (p := ⟨w2.heap.size, 2, none⟩) (by simp; omega)).trans ((World.cell?_alloc_lt y2 _ _ n0).trans c02)
          have c03 := (ht0.cell (p := ⟨w2.heap.size, 3, none⟩) (by simp; omega)).trans ((World.cell?_alloc_lt y2 _ _ n0).trans c03)
          have c04 := (ht0.cell (p := ⟨w2.heap.size, 4, none⟩) (by simp; omega)).trans ((World.cell?_alloc_lt y2 _ _ n0).trans c04)
          have c05 := (ht0.cell (p := ⟨w2.heap.size, 5, none⟩) (by simp; omega)).trans ((World.cell?_alloc_lt y2 _ _ n0).trans c05)
          have c00 := (ht0.cell (p := ⟨w2.heap.size, 0, none⟩) (by simp; omega)).trans ((World.cell?_alloc_lt y2 _ _ n0).trans c00)
          have c01 := (ht0.cell (p := ⟨w2.heap.size, 1, none⟩) (by simp; omega)).trans ((World.cell?_alloc_lt y2 _ _ n0).trans c01)
          have zz3 := zz2.trans (ht0.mono zz2.size)
          have n3 : w2.heap.size < t0.heap.size := by have := ht0.size; simp at this; omega
          go_wp2_with fail
          refine (grew_any t0 _ _ _ _ _ _ (b : Int) (ll.length : Int) Rb Rn _ ((OwnB.bytes q12).below ht0) ((OwnB.bytes q22).below ht0) (bg12.below ht0) (by have := L2.out; omega)).mono ?_
          rintro e t1 ⟨rfl, ht1⟩
          rw [G2.out]
          have c00 := (ht1.cell (p := ⟨w2.heap.size, 0, none⟩) n3).trans c00
          have c01 := (ht1.cell (p := ⟨w2.heap.size, 1, none⟩) n3).trans c01
          have c04 := (ht1.cell (p := ⟨w2.heap.size, 4, none⟩) n3).trans c04
          have c05 := (ht1.cell (p := ⟨w2.heap.size, 5, none⟩) n3).trans c05
          have zz4 := zz3.trans (ht1.mono zz3.size)
          go_wp2_with fail
          refine (grew_any t1 _ _ _ _ _ _ (a : Int) (ll.length : Int) Ra Rn _ (((OwnB.bytes q02).below ht0).below ht1) (((OwnB.bytes q22).below ht0).below ht1) ((bg2.below ht0).below ht1) (by have := L3.out; omega)).mono ?_
          rintro e t2 ⟨rfl, ht2⟩
          rw [G3.out]
          go_wp2_with fail
          go_ret
          exact ⟨rfl, zz4.trans (ht2.mono zz4.size)⟩
  · have hB0 : ((pa : Int) != 0) = true := by rw [bne_iff_ne]; omega
    clear hpa HFL
    go_wp2_with fail
    go_ret
    exact ⟨rfl, hxb⟩
end Go.Proofs.Ytaojgabiefkcaaa
