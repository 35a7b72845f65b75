/-
  THE WALKS of yearlaw3.alive, ClashStands, ClashTwo. Conditions: what comes in is read as bytes, and lists of bytes.
-/
import Derived.Test.YtaojgabiefkcaaaClashE
import Derived.Test.YtaojgabiefkcaaaLaws2A
namespace Go.Proofs.Ytaojgabiefkcaaa
open Go.RowKit Go.Lib

theorem depth23 : Tr.depth 2 3 = 1 := by
  rw [Tr.depth, dif_pos (by decide), if_neg (by decide +kernel), show Tr.split 3 = 2 from by decide +kernel, Tr.depth, dif_neg (by decide)]
theorem told_short {ll : List Bs} {b : Bs} {i : Int} {p : List Bs} : (fstO (clashS ll b i p)).length ≤ 1000 ∧ (sndO (clashS ll b i p)).length ≤ 1000 := by
  cases h : clashS ll b i p with
  | none => exact ⟨Nat.zero_le _, Nat.zero_le _⟩
  | some q =>
    obtain ⟨_, h1, h2⟩ := clashS_some h
    exact ⟨Nat.le_trans h1 (by decide), Nat.le_trans h2 (by decide)⟩

set_option maxRecDepth 100000 in
set_option maxHeartbeats 2000000 in
theorem alive3 (w : World) : Calls Try.prog 40 #[] w fun e w' => e = .returned (.bool true) ∧ Below w.heap.size w w' := by
  have hlp : (Tr.path ([[1], [2], [3]].map Tr.leafH) 2).length = 1 := (Tr.length_path 3 _ 2 rfl).trans depth23
  have hno : ∀ p, clashS [[1], [2], [3]] [3] 2 p = none := fun p => clashS_bad (fun h => h.2.2 rfl)
  have hl := blist3 (((bytes1 w 1).alloc (.cells #[bv 2] 5)).alloc (.cells #[bv 3] 5)) ((bytes1 (w.alloc (.cells #[bv 1] 5)) 2).alloc (.cells #[bv 3] 5)) (bytes1 ((w.alloc (.cells #[bv 1] 5)).alloc (.cells #[bv 2] 5)) 3)
  have hx := (((Below.refl w.heap.size w).alloc (Nat.le_refl _) (.cells #[bv 1] 5)).alloc (by simp) (.cells #[bv 2] 5)).alloc (by simp; omega) (.cells #[bv 3] 5)
  simp only [World.size_alloc] at hl
  have HNO := Lib.hid hno
  clear hno
  go_enter Try.func40, Try.ntmps40
  go_wp2_with fail
  refine (Root_fine _ _ _ [[1], [2], [3]] hl fine3).mono ?_
  rintro e w1 ⟨rv, rfl, hown1, hx1⟩
  have hxa := hx.alloc (by simp; omega) (.cells #[.slice (some ⟨w.heap.size, 0, none⟩) 1 1, .slice (some ⟨w.heap.size + 1, 0, none⟩) 1 1, .slice (some ⟨w.heap.size + 1 + 1, 0, none⟩) 1 1] 22)
  have hxb : Below w.heap.size w w1 := hxa.trans (hx1.mono hxa.size)
  have hl1 := hl.below hx1
  have hlr : (Tr.root ([[1], [2], [3]].map Tr.leafH)).length = 32 := Tr.length_root _ (d32_leaves _)
  obtain ⟨A1, c1, hv1, _, _⟩ := Own.shape hown1
  subst hv1
  rw [hlr]
  clear hl hx hx1 hxa hown1 hlr
  go_wp2_with fail
  have hl2 := hl1.alloc (.cells #[.int .i64 0, .int .i64 0] 32)
  have hxc := hxb.alloc hxb.size (.cells #[.int .i64 0, .int .i64 0] 32)
  have he0 : (w1.alloc (.cells #[.int .i64 0, .int .i64 0] 32)).cell? ⟨w1.heap.size, 0, none⟩ = some (.int .i64 0) := by rw [World.cell?_alloc_mark]; rfl
  have hsz : w1.heap.size < (w1.alloc (.cells #[.int .i64 0, .int .i64 0] 32)).heap.size := by simp
  generalize (w1.alloc (.cells #[.int .i64 0, .int .i64 0] 32)) = w2 at *
  refine (Path_fine _ _ _ [[1], [2], [3]] 2 hl2 fine3 (by decide) (by decide)).mono ?_
  rintro e w3 ⟨pv, rfl, hownp, hx3⟩
  have hxd := hxc.trans (hx3.mono hxc.size)
  have he1 := (hx3.cell (p := ⟨w1.heap.size, 0, none⟩) hsz).trans he0
  have hbp := hownp.blist
  obtain ⟨A2, c2, hv2, hpc, hcm, _⟩ := hbp.shape
  subst hv2
  rw [show (2 : Int).toNat = 2 from rfl] at *
  rw [hlp]
  have hpB : BList w3 (fun k => w2.heap.size ≤ k ∧ k < w3.heap.size) (.slice A2 1 c2) (Tr.path ([[1], [2], [3]].map Tr.leafH) 2) := by rw [← hlp]; exact hbp
  have hl3 := hl2.below hx3
  have hz3 : w1.heap.size < w3.heap.size := by have := hx3.size; omega
  clear hownp hbp hpc hlp he0 hl1 hl2
  generalize Tr.path ([[1], [2], [3]].map Tr.leafH) 2 = P at *
  have hb5 := bytes1 (w3.alloc (.cells #[.int .i64 0, .int .i64 0] 32)) 3
  have hl5 := (hl3.alloc (.cells #[.int .i64 0, .int .i64 0] 32)).alloc (.cells #[bv 3] 5)
  have hp5 := (hpB.alloc (.cells #[.int .i64 0, .int .i64 0] 32)).alloc (.cells #[bv 3] 5)
  have hxe := (hxd.alloc hxd.size (.cells #[.int .i64 0, .int .i64 0] 32)).alloc (by simp; have := hxd.size; omega) (.cells #[bv 3] 5)
  rw [World.size_alloc] at hb5
  go_wp2_with fail
  refine (standsC_any _ _ _ _ _ _ _ [[1], [2], [3]] [3] 2 P hl5 hb5 hp5).mono ?_
  rw [HNO.out]
  rintro e w6 ⟨va, vc, rfl, _, _, hx6⟩
  have hxf := hxe.trans (hx6.mono hxe.size)
  have hc1 : w6.cell? ⟨w1.heap.size, 0, none⟩ = some (.int .i64 0) := (hx6.cell (p := ⟨w1.heap.size, 0, none⟩) (by simp; omega)).trans (by
    rw [World.cell?_alloc_lt _ _ _ (by simp; omega), World.cell?_alloc_lt _ _ _ (by simp; omega)]; exact he1)
  have hc2 : w6.cell? ⟨w3.heap.size, 0, none⟩ = some (.int .i64 0) := (hx6.cell (p := ⟨w3.heap.size, 0, none⟩) (by simp; omega)).trans (by
    rw [World.cell?_alloc_lt _ _ _ (by simp), World.cell?_alloc_mark]; rfl)
  clear hb5 hl5 hp5 hxe he1
  go_wp2_with fail
  go_ret
  exact ⟨rfl, hxf⟩

set_option maxRecDepth 100000 in
set_option maxHeartbeats 2000000 in
theorem clashStands_walk (w : World) (v0 : Value) (l0 : List Bs) (h0 : BList w (fun _ => True) v0 l0) (v1 : Value) (l1 : Bs) (h1 : Bytes w (fun _ => True) v1 l1) (n2 : Int) (v3 : Value) (l3 : List Bs) (h3 : BList w (fun _ => True) v3 l3) :
    Calls Try.prog 10 #[v0, v1, .int .i64 n2, v3] w fun e w' => e = .returned (.bool true) ∧ Below w.heap.size w w' := by
  obtain ⟨A, c, hv, hnc, hcm, _⟩ := h0.shape
  subst hv
  unfold maxLen at hcm
  obtain ⟨Ap, cp, hvp, _⟩ := h3.shape
  subst hvp
  obtain ⟨A2, c2, hvb⟩ := h1.form
  subst hvb
  go_enter Try.func10, Try.ntmps10
  go_wp2_with fail
  refine (alive3 w).mono ?_
  rintro e w1 ⟨rfl, hx1⟩
  have hl1 := h0.below hx1
  go_wp2_with fail
  by_cases hf : Fine l0
  · refine (Root_fine w1 _ _ l0 hl1 hf).mono ?_
    rintro e w2 ⟨rv, rfl, hown2, hx2⟩
    have hxb := hx1.trans (hx2.mono hx1.size)
    obtain ⟨A1, c1, hv1, _, _⟩ := Own.shape hown2
    subst hv1
    have hxc := hxb.alloc hxb.size (.cells #[.int .i64 0, .int .i64 0] 32)
    have hrc := (OwnB.bytes hown2).alloc (.cells #[.int .i64 0, .int .i64 0] 32)
    have hbc := h1.below hxc
    have hpc := h3.below hxc
    go_wp2_with fail
    generalize (w2.alloc (.cells #[.int .i64 0, .int .i64 0] 32)) = w3 at *
    refine (stands_any w3 _ _ _ _ _ _ (l0.length : Int) _ l1 n2 l3 hrc hbc hpc).mono ?_
    rintro e w4 ⟨rfl, hx4⟩
    have hxd := hxc.trans (hx4.mono hxc.size)
    have hl4 := h0.below hxd
    have hb4 := h1.below hxd
    have hp4 := h3.below hxd
    cases hS : standsS (l0.length : Int) (Tr.root (l0.map Tr.leafH)) l1 n2 l3 with
    | false =>
      have hno := clashS_bad (fun h => by rw [hS] at h; cases h.2.1 : ¬ (Fine l0 ∧ standsS (l0.length : Int) (Tr.root (l0.map Tr.leafH)) l1 n2 l3 = true ∧ l0[n2.toNat]? ≠ some l1))
      have HNO := Lib.hid hno
      clear hno hS
      go_wp2_with fail
      refine (standsC_any _ _ _ _ _ _ _ l0 l1 n2 l3 hl4 hb4 hp4).mono ?_
      rw [HNO.out]
      rintro e w6 ⟨va, vc, rfl, _, _, hx6⟩
      go_wp2_with fail
      go_ret
      exact ⟨rfl, hxd.trans (hx6.mono hxd.size)⟩
    | true =>
      obtain ⟨⟨g1, g2, g3, g4, hb200⟩, hd, _⟩ := standsS_yes hS
      obtain ⟨ii, hii⟩ : ∃ k : Nat, n2 = (k : Int) := ⟨n2.toNat, by omega⟩
      subst hii
      have hlt : ii < l0.length := by omega
      obtain ⟨g, off, u, hA', hc, _, hg, hub⟩ := h0.at_ hlt
      subst hA'
      have hc3 : w4.cell? ⟨g, off + ii, none⟩ = some u := (hxd.cell (p := ⟨g, off + ii, none⟩) hg).trans hc
      have hub3 := hub.below hxd
      have hat : l0[ii]? = some l0[ii] := List.getElem?_eq_getElem hlt
      have hok : l0[ii] ≠ l1 → (clashS l0 l1 (ii : Int) l3).isSome = true := fun hne => clashS_there ⟨hf, hS, by rw [Int.toNat_natCast, hat]; intro h; injection h with h; exact hne h⟩
      have hno : l0[ii] = l1 → clashS l0 l1 (ii : Int) l3 = none := fun he => clashS_bad (fun h => h.2.2 (by rw [Int.toNat_natCast, hat, he]))
      have HOK := Lib.hid hok
      have HNO := Lib.hid hno
      have hltB : (ii : Int) < (l0.length : Int) := by omega
      have hi0 : (0 : Int) ≤ (ii : Int) := by omega
      generalize l0[ii] = x at *
      clear hok hno hS hat
      go_wp2_with fail
      refine (same_any w4 _ _ _ _ x l1 hub3 hb4).mono ?_
      rintro e w5 ⟨rfl, n5, hw⟩
      have hxe := below_drewN hxd n5
      rw [← hw] at hxe
      clear hw
      have hl5 := h0.below hxe
      have hb5 := h1.below hxe
      have hp5 := h3.below hxe
      by_cases he : x = l1
      · have hbB : (x == l1) = true := beq_iff_eq.2 he
        have HN2 := Lib.hid (HNO.out he)
        clear he HNO HOK
        rw [hbB]
        go_wp2_with fail
        refine (standsC_any w5 _ _ _ _ _ _ l0 l1 (ii : Int) l3 hl5 hb5 hp5).mono ?_
        rw [HN2.out]
        rintro e w6 ⟨va, vc, rfl, _, _, hx6⟩
        go_wp2_with fail
        go_ret
        exact ⟨rfl, hxe.trans (hx6.mono hxe.size)⟩
      · have hbB : (x == l1) = false := beq_eq_false_iff_ne.2 he
        have HN2 := Lib.hid (HOK.out he)
        have hsh := told_short (ll := l0) (b := l1) (i := (ii : Int)) (p := l3)
        clear he HNO HOK
        rw [hbB]
        go_wp2_with fail
        refine (standsC_any w5 _ _ _ _ _ _ l0 l1 (ii : Int) l3 hl5 hb5 hp5).mono ?_
        obtain ⟨q, hq⟩ : ∃ q, clashS l0 l1 (ii : Int) l3 = some q := by
          have := HN2.out
          cases h : clashS l0 l1 (ii : Int) l3 with
          | none => rw [h] at this; cases this
          | some q => exact ⟨q, rfl⟩
        have HCS := Lib.hid (clashS_some hq)
        rw [hq] at hsh ⊢
        clear hq HN2
        rintro e w6 ⟨va, vc, rfl, ho1, ho2, hx6⟩
        have hxg := hxe.trans (hx6.mono hxe.size)
        go_wp2_with fail
        refine (twoL_any w6 _ _ _ _ _ _ ho1.bytes ho2.bytes hsh.1 hsh.2).mono ?_
        rintro e w7 ⟨rfl, hx7⟩
        have htt : (Tr.clashOf (fstO (some q)) (sndO (some q))).isSome = true := by
          show (Tr.clashOf q.1 q.2).isSome = true
          rw [HCS.out.1]; rfl
        rw [htt]
        go_wp2_with fail
        go_ret
        exact ⟨rfl, hxg.trans (hx7.mono hxg.size)⟩
  · refine (Root_bad w1 _ _ l0 hl1 hf).mono ?_
    rintro e w2 ⟨a, a', rfl, _, ha, hx2⟩
    have hxb := hx1.trans (hx2.mono hx1.size)
    have hxc := hxb.alloc hxb.size (.cells #[.int .i64 (a : Int), .int .i64 (a' : Int)] 32)
    have hno := clashS_bad (fun h => hf h.1 : ¬ (Fine l0 ∧ standsS (l0.length : Int) (Tr.root (l0.map Tr.leafH)) l1 n2 l3 = true ∧ l0[n2.toNat]? ≠ some l1))
    have HNO := Lib.hid hno
    clear hno
    have hl3 := h0.below hxc
    have hb3 := h1.below hxc
    have hp3 := h3.below hxc
    go_wp2_with fail
    refine (standsC_any _ _ _ _ _ _ _ l0 l1 n2 l3 hl3 hb3 hp3).mono ?_
    rw [HNO.out]
    rintro e w6 ⟨va, vc, rfl, _, _, hx6⟩
    go_wp2_with fail
    go_ret
    exact ⟨rfl, hxc.trans (hx6.mono hxc.size)⟩
end Go.Proofs.Ytaojgabiefkcaaa
