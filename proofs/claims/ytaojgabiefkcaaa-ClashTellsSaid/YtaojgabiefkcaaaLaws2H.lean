/-
  THE WALKS of yearlaw3.ClashGrew, ClashTells. Conditions: what comes in is read as bytes, and lists of bytes, and what a path has lies in reach.
-/
import Derived.Test.YtaojgabiefkcaaaClashJ
import Derived.Test.YtaojgabiefkcaaaLaws2F
namespace Go.Proofs.Ytaojgabiefkcaaa
open Go.RowKit Go.Lib

/-- two texts are told, and have one digest; or none are -/
theorem told_two {o : Option Tr.PB} (h : ∀ q, o = some q → Tr.clashOf q.1 q.2 = some q) : (Tr.clashOf (fstO o) (sndO o)).isSome = o.isSome := by
  cases o with
  | none => unfold Tr.clashOf; rw [if_neg (fun h => h.1 rfl)]
  | some q => show (Tr.clashOf q.1 q.2).isSome = _; rw [h q rfl]
theorem told_shortO {o : Option Tr.PB} (h : ∀ q, o = some q → q.1.length ≤ 1000 ∧ q.2.length ≤ 1000) : (fstO o).length ≤ 1000 ∧ (sndO o).length ≤ 1000 := by
  cases o with
  | none => exact ⟨Nat.zero_le _, Nat.zero_le _⟩
  | some q => exact h q rfl

set_option maxRecDepth 100000 in
set_option maxHeartbeats 2000000 in
theorem clashTells_walk (w : World) (v0 : Value) (l0 : List Bs) (h0 : BList w (fun _ => True) v0 l0) (v1 : Value) (l1 : Bs) (h1 : Bytes w (fun _ => True) v1 l1) (n2 : Int) (v3 : Value) (l3 : List Bs) (h3 : BList w (fun _ => True) v3 l3)
    (n4 : Int) (u4 : Value) (r4 : Bs) (h4 : Bytes w (fun _ => True) u4 r4) (v5 : Value) (l5 : List Bs) (h5 : BList w (fun _ => True) v5 l5) (z5 : l5.length ≤ 5864062014634) :
    Calls Try.prog 12 #[v0, v1, .int .i64 n2, v3, .agg #[.int .i64 n4, u4], v5] w fun e w' => e = .returned (.bool true) ∧ Below w.heap.size w w' := by
  obtain ⟨A, c, hv, _⟩ := h0.shape
  subst hv
  obtain ⟨Ap, cp, hvp, _⟩ := h3.shape
  subst hvp
  obtain ⟨Aq, cq, hvq, _⟩ := h5.shape
  subst hvq
  obtain ⟨A2, c2, hvb⟩ := h1.form
  subst hvb
  obtain ⟨A4, c4, hvh⟩ := h4.form
  subst hvh
  obtain ⟨o, HO⟩ : ∃ o, Hid (o = clashS l0 l1 n2 l3) := ⟨_, Lib.hid rfl⟩
  obtain ⟨o', HO'⟩ : ∃ o', Hid (o' = clashG l0 n4 r4 l5) := ⟨_, Lib.hid rfl⟩
  have ht1 := Lib.hid (told_two (o := o) (fun q hq => (clashS_some (HO.out.symm.trans hq)).1))
  have ht2 := Lib.hid (told_two (o := o') (fun q hq => (clashG_some (HO'.out.symm.trans hq)).1))
  have hs1 : (fstO o).length ≤ 1000 ∧ (sndO o).length ≤ 1000 := by rw [HO.out]; exact told_short
  have hs2 : (fstO o').length ≤ 1000 ∧ (sndO o').length ≤ 1000 := told_shortO (fun q hq => by have := clashG_some (HO'.out.symm.trans hq); omega)
  have hk0 : Blk (w.alloc (.cells #[.int .i64 n4, .slice A4 r4.length c4] 24)) w.heap.size 24 #[.int .i64 n4, .slice A4 r4.length c4] := heap_alloc_new w _
  have hx0 := (Below.refl w.heap.size w).alloc (Nat.le_refl _) (.cells #[.int .i64 n4, .slice A4 r4.length c4] 24)
  go_enter Try.func12, Try.ntmps12
  go_wp2_with fail
  generalize w.alloc (.cells #[.int .i64 n4, .slice A4 r4.length c4] 24) = w0 at *
  refine (alive3 w0).mono ?_
  rintro e w1 ⟨rfl, hx1⟩
  have hk1 := hk0.below hx1 hk0.lt
  have hxa := hx0.trans (hx1.mono hx0.size)
  go_wp2_with fail
  refine (standsC_any w1 _ _ _ _ _ _ l0 l1 n2 l3 (h0.below hxa) (h1.below hxa) (h3.below hxa)).mono ?_
  rw [← HO.out]
  rintro e w2 ⟨va, vc, rfl, ho1, ho2, hx2⟩
  have hk2 := hk1.below hx2 hk1.lt
  have hxb := hxa.trans (hx2.mono hxa.size)
  obtain ⟨A6, c6, hva, _, _⟩ := Own.shape ho1
  obtain ⟨A7, c7, hvc, _, _⟩ := Own.shape ho2
  subst hva hvc
  go_wp2_with fail
  refine (twoL_any w2 _ _ _ _ _ _ ho1.bytes ho2.bytes hs1.1 hs1.2).mono ?_
  rintro e w3 ⟨rfl, hx3⟩
  have hk3 := hk2.below hx3 hk2.lt
  have hxc := hxb.trans (hx3.mono hxb.size)
  rw [ht1.out]
  generalize o.isSome = bb at *
  have e0 : w3.cell? ⟨w.heap.size, 0, none⟩ = some (.int .i64 n4) := hk3.cell 0
  have e1 : w3.cell? ⟨w.heap.size, 1, none⟩ = some (.slice A4 r4.length c4) := hk3.cell 1
  have hbb : (bb != bb) = false := by cases bb <;> rfl
  clear ho1 ho2 ht1 hs1 HO
  go_wp2_with fail
  refine (grewC_any w3 _ _ _ _ _ _ l0 n4 r4 l5 (h0.below hxc) (h4.below hxc) (h5.below hxc) z5).mono ?_
  rw [← HO'.out]
  rintro e w4 ⟨va, vc, rfl, ho1, ho2, hx4⟩
  have hxd := hxc.trans (hx4.mono hxc.size)
  obtain ⟨A8, c8, hva, _, _⟩ := Own.shape ho1
  obtain ⟨A9, c9, hvc, _, _⟩ := Own.shape ho2
  subst hva hvc
  go_wp2_with fail
  refine (twoL_any w4 _ _ _ _ _ _ ho1.bytes ho2.bytes hs2.1 hs2.2).mono ?_
  rintro e w5 ⟨rfl, hx5⟩
  rw [ht2.out]
  generalize o'.isSome = bc at *
  have hbc : (bc == bc) = true := by cases bc <;> rfl
  clear ho1 ho2 ht2 hs2 HO' e0 e1
  go_wp2_with fail
  go_ret
  exact ⟨rfl, hxd.trans (hx5.mono hxd.size)⟩

set_option maxRecDepth 100000 in
set_option maxHeartbeats 2000000 in
theorem clashGrew_walk (w : World) (v0 : Value) (l0 : List Bs) (h0 : BList w (fun _ => True) v0 l0) (n1 : Int) (u1 : Value) (r1 : Bs) (h1 : Bytes w (fun _ => True) u1 r1) (v2 : Value) (l2 : List Bs) (h2 : BList w (fun _ => True) v2 l2) (z2 : l2.length ≤ 5864062014634) :
    Calls Try.prog 13 #[v0, .agg #[.int .i64 n1, u1], v2] w fun e w' => e = .returned (.bool true) ∧ Below w.heap.size w w' := by
  obtain ⟨A, c, hv, hnc, hcm, _⟩ := h0.shape
  subst hv
  unfold maxLen at hcm
  obtain ⟨Ap, cp, hvp, _⟩ := h2.shape
  subst hvp
  obtain ⟨A4, c4, hvh⟩ := h1.form
  subst hvh
  obtain ⟨o, HO⟩ : ∃ o, Hid (o = clashG l0 n1 r1 l2) := ⟨_, Lib.hid rfl⟩
  have ht := Lib.hid (told_two (o := o) (fun q hq => (clashG_some (HO.out.symm.trans hq)).1))
  have hs : (fstO o).length ≤ 1000 ∧ (sndO o).length ≤ 1000 := told_shortO (fun q hq => by have := clashG_some (HO.out.symm.trans hq); omega)
  have hk0 : Blk (w.alloc (.cells #[.int .i64 n1, .slice A4 r1.length c4] 24)) w.heap.size 24 #[.int .i64 n1, .slice A4 r1.length c4] := heap_alloc_new w _
  have hx0 := (Below.refl w.heap.size w).alloc (Nat.le_refl _) (.cells #[.int .i64 n1, .slice A4 r1.length c4] 24)
  go_enter Try.func13, Try.ntmps13
  go_wp2_with fail
  generalize w.alloc (.cells #[.int .i64 n1, .slice A4 r1.length c4] 24) = w0 at *
  refine (alive3 w0).mono ?_
  rintro e w1 ⟨rfl, hx1⟩
  have hk1 := hk0.below hx1 hk0.lt
  have hxa := hx0.trans (hx1.mono hx0.size)
  go_wp2_with fail
  by_cases hf : Fine l0
  · refine (Root_fine w1 _ _ l0 (h0.below hxa) hf).mono ?_
    rintro e w2 ⟨rv, rfl, hown2, hx2⟩
    have hk2 := hk1.below hx2 hk1.lt
    have hxb := hxa.trans (hx2.mono hxa.size)
    obtain ⟨A1, c1, hv1, _, _⟩ := Own.shape hown2
    subst hv1
    have hxc := hxb.alloc hxb.size (.cells #[.int .i64 0, .int .i64 0] 32)
    have hrc := (OwnB.bytes hown2).alloc (.cells #[.int .i64 0, .int .i64 0] 32)
    have hkc := hk2.alloc (.cells #[.int .i64 0, .int .i64 0] 32)
    have hbc : Blk (w2.alloc (.cells #[.int .i64 0, .int .i64 0] 32)) w2.heap.size 32 #[.int .i64 0, .int .i64 0] := heap_alloc_new w2 _
    have f0 : w2.cell? ⟨w.heap.size, 0, none⟩ = some (.int .i64 n1) := hk2.cell 0
    have f1 : w2.cell? ⟨w.heap.size, 1, none⟩ = some (.slice A4 r1.length c4) := hk2.cell 1
    have hg1 : w.heap.size < w2.heap.size := hk2.lt
    go_wp2_with fail
    generalize (w2.alloc (.cells #[.int .i64 0, .int .i64 0] 32)) = w3 at *
    generalize w2.heap.size = g1 at *
    refine (grew_any w3 _ _ _ _ _ _ n1 (l0.length : Int) r1 _ l2 (h1.below hxc) hrc (h2.below hxc) z2).mono ?_
    rintro e w4 ⟨rfl, hx4⟩
    have hxd := hxc.trans (hx4.mono hxc.size)
    have hk4 := hkc.below hx4 hkc.lt
    have hb4 := hbc.below hx4 hbc.lt
    have f0 : w4.cell? ⟨w.heap.size, 0, none⟩ = some (.int .i64 n1) := hk4.cell 0
    have f1 : w4.cell? ⟨w.heap.size, 1, none⟩ = some (.slice A4 r1.length c4) := hk4.cell 1
    cases hS : grewS n1 r1 (l0.length : Int) (Tr.root (l0.map Tr.leafH)) l2 with
    | false =>
      have hoo := HO.out.trans (clashG_bad (fun h => by rw [hS] at h; cases h.2.1))
      have HOO := Lib.hid hoo
      clear hS hoo
      go_wp2_with fail
      refine (grewC_any w4 _ _ _ _ _ _ l0 n1 r1 l2 (h0.below hxd) (h1.below hxd) (h2.below hxd) z2).mono ?_
      rw [← HO.out, HOO.out]
      rintro e w6 ⟨va, vc, rfl, _, _, hx6⟩
      go_wp2_with fail
      go_ret
      exact ⟨rfl, hxd.trans (hx6.mono hxd.size)⟩
    | true =>
      obtain ⟨⟨i1, i2, i3⟩, hd, hr, htw⟩ := grewS_yes hS
      obtain ⟨mi, hmi⟩ : ∃ k : Nat, n1 = (k : Int) := ⟨n1.toNat, by omega⟩
      subst hmi
      have hok : r1 ≠ Tr.rootL (l0.take mi) → o.isSome = true := fun hne => by rw [HO.out]; exact clashG_there ⟨hf, hS, by rw [Int.toNat_natCast]; exact hne⟩
      have hno : r1 = Tr.rootL (l0.take mi) → o.isSome = false := fun he => by rw [HO.out, clashG_bad (fun h => h.2.2 (by rw [Int.toNat_natCast]; exact he))]; rfl
      have HOK := Lib.hid hok
      have HNO := Lib.hid hno
      have j1 : (0 : Int) ≤ (mi : Int) := by omega
      have j2 : (mi : Int) ≤ (l0.length : Int) := by omega
      have j3 : (mi : Int) ≤ (c : Int) := by omega
      have hl4 := (h0.below hxd).first mi (by omega)
      clear hok hno hS hr htw hd
      go_wp2_with fail
      refine (Root_fine w4 _ _ (l0.take mi) hl4 (hf.take mi)).mono ?_
      rintro e w5 ⟨ov, rfl, hown5, hx5⟩
      have hrl : Tr.root ((l0.take mi).map Tr.leafH) = Tr.rootL (l0.take mi) := rfl
      rw [hrl] at hown5
      have hxe := hxd.trans (hx5.mono hxd.size)
      have hk5 := hk4.below hx5 hk4.lt
      have hb5 := hb4.below hx5 hb4.lt
      generalize Tr.rootL (l0.take mi) = R at *
      obtain ⟨A5, c5, hv5, _, _⟩ := Own.shape hown5
      subst hv5
      have g0 : w5.cell? ⟨g1, 0, none⟩ = some (.int .i64 0) := hb5.cell 0
      have g1' : w5.cell? ⟨g1, 1, none⟩ = some (.int .i64 0) := hb5.cell 1
      have k0 := hb5.frozen 0
      have k1 := hb5.frozen 1
      have hne1 := Own.ne_blk hown5 hb5 (by decide)
      have hgw : w.heap.size ≤ g1 := by omega
      have hbS := (hb5.set_ 0 (.int .i64 0)).set_ 1 (.int .i64 0)
      have hkS := (hk5.far (p := ⟨g1, 0, none⟩) (by show w.heap.size ≠ g1; omega) (.int .i64 0)).far (p := ⟨g1, 1, none⟩) (by show w.heap.size ≠ g1; omega) (.int .i64 0)
      have hxS : Below w.heap.size w ((w5.setCell ⟨g1, 0, none⟩ (.int .i64 0)).setCell ⟨g1, 1, none⟩ (.int .i64 0)) := (hxe.setCell (p := ⟨g1, 0, none⟩) hgw _).setCell (p := ⟨g1, 1, none⟩) hgw _
      have hoS := (Own.setCell (p := ⟨g1, 0, none⟩) hown5 hne1 (.int .i64 0)).setCell (p := ⟨g1, 1, none⟩) hne1 (.int .i64 0)
      have f2 : ((w5.setCell ⟨g1, 0, none⟩ (.int .i64 0)).setCell ⟨g1, 1, none⟩ (.int .i64 0)).cell? ⟨w.heap.size, 0, none⟩ = some (.int .i64 (mi : Int)) := hkS.cell 0
      have f3 : ((w5.setCell ⟨g1, 0, none⟩ (.int .i64 0)).setCell ⟨g1, 1, none⟩ (.int .i64 0)).cell? ⟨w.heap.size, 1, none⟩ = some (.slice A4 r1.length c4) := hkS.cell 1
      clear hl4 f0 f1 hown5
      go_wp2_with fail
      generalize ((w5.setCell ⟨g1, 0, none⟩ (.int .i64 0)).setCell ⟨g1, 1, none⟩ (.int .i64 0)) = w6 at *
      refine (grewC_any w6 _ _ _ _ _ _ l0 (mi : Int) r1 l2 (h0.below hxS) (h1.below hxS) (h2.below hxS) z2).mono ?_
      rw [← HO.out]
      rintro e w7 ⟨va, vc, rfl, ho1, ho2, hx7⟩
      have hxf := hxS.trans (hx7.mono hxS.size)
      have hbT := hbS.below hx7 hbS.lt
      have hkT := hkS.below hx7 hkS.lt
      obtain ⟨A8, c8, hva, _, _⟩ := Own.shape ho1
      obtain ⟨A9, c9, hvc, _, _⟩ := Own.shape ho2
      subst hva hvc
      have f4 : w7.cell? ⟨w.heap.size, 1, none⟩ = some (.slice A4 r1.length c4) := hkT.cell 1
      have f5 : w7.cell? ⟨g1, 0, none⟩ = some (.int .i64 0) := hbT.cell 0
      have ho7 : Bytes w7 _ (.slice A5 R.length c5) R := (OwnB.bytes (l := R) hoS).below hx7
      clear g0 g1' f2 f3
      go_wp2_with fail
      refine (same_any w7 _ _ _ _ R r1 ho7 (h1.below hxf)).mono ?_
      rintro e w8 ⟨rfl, n8, hw⟩
      have hxg := below_drewN hxf n8
      have hp1 := OwnB.drewN ho1 n8
      have hp2 := OwnB.drewN ho2 n8
      have f6 : (w7.drewN n8).cell? ⟨g1, 0, none⟩ = some (.int .i64 0) := f5
      rw [← hw] at hxg hp1 hp2 f6
      clear hw
      by_cases he : R = r1
      · have hbB : (R == r1) = true := beq_iff_eq.2 he
        have hos := HNO.out he.symm
        have HN := Lib.hid hos
        clear he HNO HOK hos
        rw [hbB]
        generalize o.isSome = bb at *
        have hbf := HN.out
        subst hbf
        go_wp2_with fail
        go_ret
        exact ⟨rfl, hxg⟩
      · have hbB : (R == r1) = false := beq_eq_false_iff_ne.2 he
        have hos := HOK.out (fun h => he h.symm)
        have HN := Lib.hid hos
        clear he HNO HOK hos
        rw [hbB]
        have HT2 := Lib.hid (ht.out.trans HN.out)
        rw [HN.out]
        go_wp2_with fail
        refine (twoL_any w8 _ _ _ _ _ _ hp1.bytes hp2.bytes hs.1 hs.2).mono ?_
        rintro e w9 ⟨rfl, hx9⟩
        rw [HT2.out]
        go_wp2_with fail
        go_ret
        exact ⟨rfl, hxg.trans (hx9.mono hxg.size)⟩
  · refine (Root_bad w1 _ _ l0 (h0.below hxa) hf).mono ?_
    rintro e w2 ⟨a, a', rfl, _, ha, hx2⟩
    have hk2 := hk1.below hx2 hk1.lt
    have hxb := hxa.trans (hx2.mono hxa.size)
    have hxc := hxb.alloc hxb.size (.cells #[.int .i64 (a : Int), .int .i64 (a' : Int)] 32)
    have hkc := hk2.alloc (.cells #[.int .i64 (a : Int), .int .i64 (a' : Int)] 32)
    have f0 : w2.cell? ⟨w.heap.size, 0, none⟩ = some (.int .i64 n1) := hk2.cell 0
    have f1 : w2.cell? ⟨w.heap.size, 1, none⟩ = some (.slice A4 r1.length c4) := hk2.cell 1
    have hg1 : w.heap.size < w2.heap.size := hk2.lt
    have hno := HO.out.trans (clashG_bad (fun h => hf h.1))
    have HNO := Lib.hid hno
    clear hno
    go_wp2_with fail
    refine (grewC_any _ _ _ _ _ _ _ l0 n1 r1 l2 (h0.below hxc) (h1.below hxc) (h2.below hxc) z2).mono ?_
    rw [← HO.out, HNO.out]
    rintro e w6 ⟨va, vc, rfl, _, _, hx6⟩
    go_wp2_with fail
    go_ret
    exact ⟨rfl, hxc.trans (hx6.mono hxc.size)⟩
end Go.Proofs.Ytaojgabiefkcaaa
