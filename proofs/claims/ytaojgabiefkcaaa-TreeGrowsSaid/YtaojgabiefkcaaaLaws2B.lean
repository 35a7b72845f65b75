/-
  THE WALKS of yearlaw2.TreeGrows, TreeSizes. Conditions: what comes in is read as lists of bytes.
-/
import Derived.Test.YtaojgabiefkcaaaLaws2A
namespace Go.Proofs.Ytaojgabiefkcaaa
open Go.RowKit Go.Lib

set_option maxRecDepth 100000 in
set_option maxHeartbeats 2000000 in
theorem treeGrows_walk (w : World) (v : Value) (ll : List Bs) (hl : BList w (fun _ => True) v ll) (m : Int) :
    Calls Try.prog 6 #[v, .int .i64 m] w fun e w' => e = .returned (.bool true) ∧ Below w.heap.size w w' := by
  obtain ⟨A, c, hv, hlc, hcm, _⟩ := hl.shape
  subst hv
  unfold maxLen at hcm
  go_enter Try.func6, Try.ntmps6
  go_wp2_with fail
  refine (alive2 w).mono ?_
  rintro e w1 ⟨rfl, hx1⟩
  have hl1 := hl.below hx1
  go_wp2_with fail
  by_cases hf : Fine ll
  · refine (Root_fine _ _ _ ll hl1 hf).mono ?_
    rintro e w2 ⟨rv, rfl, hown2, hx2⟩
    have hxb := hx1.trans (hx2.mono hx1.size)
    have hn := hf.1
    have hr2 := OwnB.bytes hown2
    obtain ⟨A1, c1, hv1, _, _⟩ := Own.shape hown2
    subst hv1
    have hl2 := hl.below hxb
    by_cases hm : 1 ≤ m ∧ m ≤ ll.length
    · obtain ⟨hm1, hm2⟩ := hm
      obtain ⟨mi, hmi⟩ : ∃ k : Nat, m = (k : Int) := ⟨m.toNat, by omega⟩
      subst hmi
      have hgr := grewS_grows ll hf mi (by omega) (by omega)
      have hgl : (Tr.grows (ll.map Tr.leafH) mi true).length ≤ 8 := grows_le7 (n := ll.length) (by simp) (by omega) mi true
      have hB1 : decide ((mi : Int) < 1) = false := by simp; omega
      have hB2 : decide (ll.length < mi) = false := by simp; omega
      have hmc : (mi : Int) ≤ (c : Int) := by omega
      have HG := Lib.hid hgr
      have HGL := Lib.hid hgl
      generalize Tr.root (ll.map Tr.leafH) = R at *
      have HF := Lib.hid hf
      clear hgr hgl hf hown2 hl1
      go_wp2_with fail
      have hl3 := (hl2.first mi (by omega)).alloc (.cells #[.int .i64 0, .int .i64 0] 32)
      have hl3' := hl2.alloc (.cells #[.int .i64 0, .int .i64 0] 32)
      have hxc := hxb.alloc hxb.size (.cells #[.int .i64 0, .int .i64 0] 32)
      have hrc := hr2.alloc (.cells #[.int .i64 0, .int .i64 0] 32)
      have hbc : Blk (w2.alloc (.cells #[.int .i64 0, .int .i64 0] 32)) w2.heap.size 32 #[.int .i64 0, .int .i64 0] := heap_alloc_new w2 _
      have hw2 : w.heap.size ≤ w2.heap.size := hxb.size
      have hxR : Below w2.heap.size w2 (w2.alloc (.cells #[.int .i64 0, .int .i64 0] 32)) := (Below.refl _ _).alloc (Nat.le_refl _) _
      generalize (w2.alloc (.cells #[.int .i64 0, .int .i64 0] 32)) = w3 at *
      have hs3 := hbc.lt
      refine (Root_fine _ _ _ (ll.take mi) hl3 (HF.out.take mi)).mono ?_
      rintro e w4 ⟨ov, rfl, hown4, hx4⟩
      generalize Tr.root ((ll.take mi).map Tr.leafH) = O at *
      have hxd := hxc.trans (hx4.mono hxc.size)
      have hbd := hbc.below hx4 hs3
      have hl4 := hl3'.below hx4
      have hrd := hrc.below hx4
      obtain ⟨A3, c3, hv3, _, _⟩ := Own.shape hown4
      subst hv3
      have ho4 := OwnB.bytes hown4
      have g0 := hbd.cell 0
      have g1 := hbd.cell 1
      have k0 := hbd.frozen 0
      have k1 := hbd.frozen 1
      have g0' : w4.cell? ⟨w2.heap.size, 0, none⟩ = some (.int .i64 0) := g0
      have g1' : w4.cell? ⟨w2.heap.size, 1, none⟩ = some (.int .i64 0) := g1
      have hne1 := Own.ne_blk hown4 hbd (by decide)
      have hs4 := hbd.lt
      clear g0 g1
      go_wp2_with fail
      have hbe := (hbd.set_ 0 (.int .i64 0)).set_ 1 (.int .i64 0)
      have hxS : Below w.heap.size w ((w4.setCell ⟨w2.heap.size, 0, none⟩ (.int .i64 0)).setCell ⟨w2.heap.size, 1, none⟩ (.int .i64 0)) := (hxd.setCell (p := ⟨w2.heap.size, 0, none⟩) hw2 _).setCell (p := ⟨w2.heap.size, 1, none⟩) hw2 _
      have hxR5 : Below w2.heap.size w2 ((w4.setCell ⟨w2.heap.size, 0, none⟩ (.int .i64 0)).setCell ⟨w2.heap.size, 1, none⟩ (.int .i64 0)) := ((hxR.trans (hx4.mono hxR.size)).setCell (p := ⟨w2.heap.size, 0, none⟩) (Nat.le_refl _) _).setCell (p := ⟨w2.heap.size, 1, none⟩) (Nat.le_refl _) _
      have ho5 := (Own.setCell (p := ⟨w2.heap.size, 0, none⟩) hown4 hne1 (.int .i64 0)).setCell (p := ⟨w2.heap.size, 1, none⟩) hne1 (.int .i64 0)
      have hl5 := hl.below hxS
      have hr5 := hr2.below hxR5
      generalize ((w4.setCell ⟨w2.heap.size, 0, none⟩ (.int .i64 0)).setCell ⟨w2.heap.size, 1, none⟩ (.int .i64 0)) = w5 at *
      refine (Grows_fine w5 _ _ ll (mi : Int) hl5 HF.out (by omega) (by omega)).mono ?_
      rintro e w6 ⟨gv, rfl, howng, hx6⟩
      rw [Int.toNat_natCast] at howng
      have hbg := howng.blist
      obtain ⟨A7, c7, hv7, _, _, _⟩ := hbg.shape
      subst hv7
      have hbf := hbe.below hx6 hbe.lt
      have g2' : w6.cell? ⟨w2.heap.size, 0, none⟩ = some (.int .i64 0) := hbf.cell 0
      have hs6 := hbf.lt
      have hr6 := (hr5.below hx6).alloc (.cells #[.int .i64 0, .int .i64 0] 32)
      have ho6 := ((OwnB.bytes (l := O) ho5).below hx6).alloc (.cells #[.int .i64 0, .int .i64 0] 32)
      have hg6 := hbg.alloc (.cells #[.int .i64 0, .int .i64 0] 32)
      have hx6' := (hxS.trans (hx6.mono hxS.size))
      have hx7 := hx6'.alloc hx6'.size (.cells #[.int .i64 0, .int .i64 0] 32)
      clear howng hbg
      go_wp2_with fail
      refine (grew_any _ _ _ _ _ _ _ (mi : Int) (ll.length : Int) O R _ ho6 hr6 hg6 (by have := HGL.out; omega)).mono ?_
      rintro e w8 ⟨rfl, hx8⟩
      rw [HG.out]
      go_wp2_with fail
      go_ret
      exact ⟨rfl, hx7.trans (hx8.mono hx7.size)⟩
    · have hcase : m < 1 ∨ (¬ m < 1 ∧ (ll.length : Int) < m) := by omega
      have hxc := hxb.alloc hxb.size (.cells #[.int .i64 0, .int .i64 0] 32)
      clear hm hf
      rcases hcase with h1 | ⟨h1, h2⟩
      · have b1 : decide (m < 1) = true := decide_eq_true (by omega)
        go_wp2_with fail
        go_ret
        exact ⟨rfl, hxc⟩
      · have b1 : decide (m < 1) = false := decide_eq_false (by omega)
        have b2 : decide ((ll.length : Int) < m) = true := decide_eq_true (by omega)
        go_wp2_with fail
        go_ret
        exact ⟨rfl, hxc⟩
  · refine (Root_bad _ _ _ ll hl1 hf).mono ?_
    rintro e w2 ⟨a, b, rfl, _, ha, hx2⟩
    have hxb := hx1.trans (hx2.mono hx1.size)
    clear hf
    go_wp2_with fail
    go_ret
    exact ⟨rfl, hxb.alloc hxb.size _⟩
end Go.Proofs.Ytaojgabiefkcaaa
