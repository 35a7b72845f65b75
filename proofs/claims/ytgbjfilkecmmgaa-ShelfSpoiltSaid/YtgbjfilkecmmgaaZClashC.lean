/-
  THE WALK of clash.down at a leaf. Conditions: what is read is bytes, and lists of bytes; leaves as a tree may have.
-/
import Derived.Test.YtgbjfilkecmmgaaZClashB
namespace Go.Proofs.Ytgbjfilkecmmgaa
open Go.RowKit Go.Lib

/-- three cells of a block of two texts are laid anew -/
theorem store3 {w w4 : World} {g : Nat} {x0 x1 x2 : Value} (hb : Blk w4 g 96 #[x0, x1, x2]) (hx : Below w.heap.size w w4) (hg : w.heap.size ≤ g) (a b c : Value) :
    Blk (((w4.setCell ⟨g, 0, none⟩ a).setCell ⟨g, 1, none⟩ b).setCell ⟨g, 2, none⟩ c) g 96 #[a, b, c] ∧
    Below w.heap.size w (((w4.setCell ⟨g, 0, none⟩ a).setCell ⟨g, 1, none⟩ b).setCell ⟨g, 2, none⟩ c) ∧
    (∀ B v l, OwnB w4 B v l → OwnB (((w4.setCell ⟨g, 0, none⟩ a).setCell ⟨g, 1, none⟩ b).setCell ⟨g, 2, none⟩ c) B v l) := by
  refine ⟨((hb.set_ 0 a).set_ 1 b).set_ 2 c, ((hx.setCell (p := ⟨g, 0, none⟩) hg _).setCell (p := ⟨g, 1, none⟩) hg _).setCell (p := ⟨g, 2, none⟩) hg _, fun B v l h => ?_⟩
  have hne := Own.ne_blk h hb (by decide)
  exact ((Own.setCell (p := ⟨g, 0, none⟩) h hne a).setCell (p := ⟨g, 1, none⟩) hne b).setCell (p := ⟨g, 2, none⟩) hne c
/-- another block is as it was -/
theorem store3_far {w4 : World} {g h : Nat} {t : TypeId} {cs : Array Value} (hb : Blk w4 h t cs) (hne : h ≠ g) (a b c : Value) :
    Blk (((w4.setCell ⟨g, 0, none⟩ a).setCell ⟨g, 1, none⟩ b).setCell ⟨g, 2, none⟩ c) h t cs :=
  ((hb.far (p := ⟨g, 0, none⟩) hne a).far (p := ⟨g, 1, none⟩) hne b).far (p := ⟨g, 2, none⟩) hne c

set_option maxRecDepth 100000 in
set_option maxHeartbeats 2000000 in
theorem down_base (w : World) (F F' : Nat → Prop) (v vb vp : Value) (x b : Bs) (z : Int) (hl : BList w F v [x]) (hb : Bytes w F' vb b) (hx : x.length ≤ 200) (hb200 : b.length ≤ 200) :
    Calls Try.prog 74 #[v, vb, .int .i64 z, vp] w fun e w' => ∃ va vc vd, e = .returned (.tuple #[tex va vc (Tr.clashOf (Tr.leafT x) (Tr.leafT b)), vd]) ∧
      OwnB w' w.heap.size va (fstO (Tr.clashOf (Tr.leafT x) (Tr.leafT b))) ∧ OwnB w' w.heap.size vc (sndO (Tr.clashOf (Tr.leafT x) (Tr.leafT b))) ∧ OwnB w' w.heap.size vd (Tr.leafH b) ∧ Below w.heap.size w w' := by
  obtain ⟨A, c, hv, hnc, hcm, _⟩ := hl.shape
  subst hv
  obtain ⟨bk, off, u, hA, hc, _, hbk, hub⟩ := hl.at_ (j := 0) (by simp)
  have hub' : Bytes w F u x := hub.weak (fun k hk h => by first | exact h | exact h.1)
  subst hA
  obtain ⟨A2, c2, rfl⟩ := hb.form
  obtain ⟨A3, c3, rfl⟩ := hub'.form
  have hub0 := hub'.alloc (.cells #[.slice none 0 0, .slice none 0 0, .bool false] 96)
  have hb0 := hb.alloc (.cells #[.slice none 0 0, .slice none 0 0, .bool false] 96)
  have hx0 := (Below.refl w.heap.size w).alloc (Nat.le_refl _) (.cells #[.slice none 0 0, .slice none 0 0, .bool false] 96)
  have hk0 : Blk (w.alloc (.cells #[.slice none 0 0, .slice none 0 0, .bool false] 96)) w.heap.size 96 #[.slice none 0 0, .slice none 0 0, .bool false] := heap_alloc_new w _
  have hc0 : (w.alloc (.cells #[.slice none 0 0, .slice none 0 0, .bool false] 96)).cell? ⟨bk, off, none⟩ = some (.slice A3 x.length c3) := (hx0.cell (p := ⟨bk, off, none⟩) hbk).trans hc
  have hxl : (Tr.leafT x).length ≤ 201 := by rw [length_leafT]; omega
  have hbl : (Tr.leafT b).length ≤ 201 := by rw [length_leafT]; omega
  clear hc hub hub' hb
  obtain ⟨o, HO⟩ : ∃ o, Hid (o = Tr.clashOf (Tr.leafT x) (Tr.leafT b)) := ⟨_, Lib.hid rfl⟩
  rw [← HO.out]
  go_enter Try.func74, Try.ntmps74
  go_wp2_with fail
  refine (leafC_any _ _ _ x hub0 (by omega)).mono ?_
  rintro e w1 ⟨v1, rfl, hown1, hx1⟩
  have hb1 := hb0.below hx1
  have hxa := hx0.trans (hx1.mono hx0.size)
  have hk1 := hk0.below hx1 hk0.lt
  go_wp2_with fail
  refine (leafC_any w1 _ _ b hb1 (by omega)).mono ?_
  rintro e w2 ⟨v2, rfl, hown2, hx2⟩
  have hxb := hxa.trans (hx2.mono hxa.size)
  have hk2 := hk1.below hx2 hk1.lt
  have ho1 := (OwnB.below hown1 hx2).mono hx0.size
  have ho2 := OwnB.mono hown2 hxa.size
  clear hown1 hown2 hb1 hub0 hb0
  obtain ⟨A4, c4, hv4, _, _⟩ := Own.shape ho1
  obtain ⟨A5, c5, hv5, _, _⟩ := Own.shape ho2
  subst hv4 hv5
  go_wp2_with fail
  refine (equal_any w2 _ _ _ _ _ _ ho1.bytes ho2.bytes).mono ?_
  rintro e w3 ⟨rfl, hw⟩
  subst hw
  have hend : ∀ w4 : World, Below w3.heap.size w3 w4 → w4.cell? ⟨w.heap.size, 0, none⟩ = some (.slice none 0 0) ∧ w4.cell? ⟨w.heap.size, 1, none⟩ = some (.slice none 0 0) ∧ w4.cell? ⟨w.heap.size, 2, none⟩ = some (.bool false) ∧
      w4.frozen? ⟨w.heap.size, 0, none⟩ = false ∧ w4.frozen? ⟨w.heap.size, 1, none⟩ = false ∧ w4.frozen? ⟨w.heap.size, 2, none⟩ = false ∧ Blk w4 w.heap.size 96 #[.slice none 0 0, .slice none 0 0, .bool false] := fun w4 h => by
    have hb := hk2.below h hk2.lt
    exact ⟨hb.cell 0, hb.cell 1, hb.cell 2, hb.frozen 0, hb.frozen 1, hb.frozen 2, hb⟩
  have HE := Lib.hid hend
  clear hend
  by_cases he : Tr.leafT x = Tr.leafT b
  · have hco : Tr.clashOf (Tr.leafT x) (Tr.leafT b) = none := by unfold Tr.clashOf; rw [if_neg (fun h => h.1 he)]
    have hbB : (Tr.leafT x == Tr.leafT b) = true := beq_iff_eq.2 he
    have ho := HO.out.trans hco
    rw [hbB]
    clear he HO hco
    subst ho
    go_wp2_with fail
    refine (sum_any w3 _ _ _ ho2.bytes (by omega)).mono ?_
    rintro e w4 ⟨v4, rfl, hown4, hx4⟩
    obtain ⟨e0, e1, e2, f0, f1, f2, hk4⟩ := HE.out w4 hx4
    obtain ⟨s1, s2, s3⟩ := store3 hk4 (hxb.trans (hx4.mono hxb.size)) (Nat.le_refl _) (.slice none 0 0) (.slice none 0 0) (.bool false)
    have ho4 := s3 _ _ _ (OwnB.mono hown4 hxb.size)
    go_wp2_with fail
    generalize ((w4.setCell ⟨w.heap.size, 0, none⟩ (.slice none 0 0)).setCell ⟨w.heap.size, 1, none⟩ (.slice none 0 0)).setCell ⟨w.heap.size, 2, none⟩ (.bool false) = w5 at *
    have g0 : w5.cell? ⟨w.heap.size, 0, none⟩ = some (.slice none 0 0) := s1.cell 0
    have g1 : w5.cell? ⟨w.heap.size, 1, none⟩ = some (.slice none 0 0) := s1.cell 1
    have g2 : w5.cell? ⟨w.heap.size, 2, none⟩ = some (.bool false) := s1.cell 2
    exact bodyPost_ret (v := .tuple #[.agg #[.slice none 0 0, .slice none 0 0, .bool false], v4]) (by simp [results, Try.results74, go_sem, g0, g1, g2]) rfl ⟨_, _, _, rfl, Own.nil_ _ _ _ _, Own.nil_ _ _ _ _, ho4, s2⟩
  · have hbB : (Tr.leafT x == Tr.leafT b) = false := beq_eq_false_iff_ne.2 he
    rw [hbB]
    have HNE := Lib.hid he
    clear he
    go_wp2_with fail
    refine (sum_any w3 _ _ _ ho1.bytes (by omega)).mono ?_
    rintro e w4 ⟨v4, rfl, hown4, hx4⟩
    go_wp2_with fail
    refine (sum_any w4 _ _ _ (ho2.bytes.below hx4) (by omega)).mono ?_
    rintro e w5 ⟨v5, rfl, hown5, hx5⟩
    have hx45 := hx4.trans (hx5.mono hx4.size)
    have hs1 : Bytes w5 _ v4 _ := hown4.bytes.below hx5
    go_wp2_with fail
    refine (equal_any w5 _ _ _ _ _ _ hs1 hown5.bytes).mono ?_
    rintro e w6 ⟨rfl, hw⟩
    subst hw
    by_cases hs : Sha.sha256 (Tr.leafT x) = Sha.sha256 (Tr.leafT b)
    · have hco : Tr.clashOf (Tr.leafT x) (Tr.leafT b) = some (Tr.leafT x, Tr.leafT b) := by unfold Tr.clashOf; rw [if_pos ⟨HNE.out, hs⟩]
      have hsB : (Sha.sha256 (Tr.leafT x) == Sha.sha256 (Tr.leafT b)) = true := beq_iff_eq.2 hs
      have ho := HO.out.trans hco
      rw [hsB]
      clear hs HO hco
      subst ho
      go_wp2_with fail
      refine (sum_any w6 _ _ _ (ho2.bytes.below hx45) (by omega)).mono ?_
      rintro e w7 ⟨v7, rfl, hown7, hx7⟩
      have hx47 := hx45.trans (hx7.mono hx45.size)
      obtain ⟨e0, e1, e2, f0, f1, f2, hk4⟩ := HE.out w7 hx47
      obtain ⟨s1, s2, s3⟩ := store3 hk4 (hxb.trans (hx47.mono hxb.size)) (Nat.le_refl _) (.slice A4 (Tr.leafT x).length c4) (.slice A5 (Tr.leafT b).length c5) (.bool true)
      have ho4 := s3 _ _ _ (OwnB.mono hown7 (Nat.le_trans hxb.size hx45.size))
      have ho5 := s3 _ _ _ (OwnB.below ho1 hx47)
      have ho6 := s3 _ _ _ (OwnB.below ho2 hx47)
      go_wp2_with fail
      generalize ((w7.setCell ⟨w.heap.size, 0, none⟩ (.slice A4 (Tr.leafT x).length c4)).setCell ⟨w.heap.size, 1, none⟩ (.slice A5 (Tr.leafT b).length c5)).setCell ⟨w.heap.size, 2, none⟩ (.bool true) = w8 at *
      have g0 : w8.cell? ⟨w.heap.size, 0, none⟩ = some (.slice A4 (Tr.leafT x).length c4) := s1.cell 0
      have g1 : w8.cell? ⟨w.heap.size, 1, none⟩ = some (.slice A5 (Tr.leafT b).length c5) := s1.cell 1
      have g2 : w8.cell? ⟨w.heap.size, 2, none⟩ = some (.bool true) := s1.cell 2
      exact bodyPost_ret (v := .tuple #[.agg #[.slice A4 (Tr.leafT x).length c4, .slice A5 (Tr.leafT b).length c5, .bool true], v7]) (by simp [results, Try.results74, go_sem, g0, g1, g2]) rfl ⟨_, _, _, rfl, ho5, ho6, ho4, s2⟩
    · have hco : Tr.clashOf (Tr.leafT x) (Tr.leafT b) = none := by unfold Tr.clashOf; rw [if_neg (fun h => hs h.2)]
      have hsB : (Sha.sha256 (Tr.leafT x) == Sha.sha256 (Tr.leafT b)) = false := beq_eq_false_iff_ne.2 hs
      have ho := HO.out.trans hco
      rw [hsB]
      clear hs HO hco
      subst ho
      go_wp2_with fail
      refine (sum_any w6 _ _ _ (ho2.bytes.below hx45) (by omega)).mono ?_
      rintro e w7 ⟨v7, rfl, hown7, hx7⟩
      have hx47 := hx45.trans (hx7.mono hx45.size)
      obtain ⟨e0, e1, e2, f0, f1, f2, hk4⟩ := HE.out w7 hx47
      obtain ⟨s1, s2, s3⟩ := store3 hk4 (hxb.trans (hx47.mono hxb.size)) (Nat.le_refl _) (.slice none 0 0) (.slice none 0 0) (.bool false)
      have ho4 := s3 _ _ _ (OwnB.mono hown7 (Nat.le_trans hxb.size hx45.size))
      go_wp2_with fail
      generalize ((w7.setCell ⟨w.heap.size, 0, none⟩ (.slice none 0 0)).setCell ⟨w.heap.size, 1, none⟩ (.slice none 0 0)).setCell ⟨w.heap.size, 2, none⟩ (.bool false) = w8 at *
      have g0 : w8.cell? ⟨w.heap.size, 0, none⟩ = some (.slice none 0 0) := s1.cell 0
      have g1 : w8.cell? ⟨w.heap.size, 1, none⟩ = some (.slice none 0 0) := s1.cell 1
      have g2 : w8.cell? ⟨w.heap.size, 2, none⟩ = some (.bool false) := s1.cell 2
      exact bodyPost_ret (v := .tuple #[.agg #[.slice none 0 0, .slice none 0 0, .bool false], v7]) (by simp [results, Try.results74, go_sem, g0, g1, g2]) rfl ⟨_, _, _, rfl, Own.nil_ _ _ _ _, Own.nil_ _ _ _ _, ho4, s2⟩
end Go.Proofs.Ytgbjfilkecmmgaa
