/-
  THE WALK of yearlaw5.ShelfTurns. Conditions: what comes in is read as a list of texts.
-/
import Derived.Test.YtgbjfilkecmmgaaZGi
import Derived.Test.YtgbjfilkecmmgaaZGs
namespace Go.Proofs.Ytgbjfilkecmmgaa
open Go.RowKit Go.Lib

theorem keep4 {w' W1 W2 : World} {g : Nat} {u v x : Value} (hg : g + 1 < w'.heap.size) (h : W1.cell? ⟨g, 2, none⟩ = some u ∧ W1.cell? ⟨g + 1, 0, none⟩ = some v ∧ W1.cell? ⟨g + 1, 1, none⟩ = some x ∧ Below w'.heap.size w' W1) (hx : Below W1.heap.size W1 W2) :
    W2.cell? ⟨g, 2, none⟩ = some u ∧ W2.cell? ⟨g + 1, 0, none⟩ = some v ∧ W2.cell? ⟨g + 1, 1, none⟩ = some x ∧ Below w'.heap.size w' W2 := by
  obtain ⟨h1, h2, h3, h4⟩ := h
  have hs := h4.size
  exact ⟨(hx.cell (p := ⟨g, 2, none⟩) (by show g < _; omega)).trans h1, (hx.cell (p := ⟨g + 1, 0, none⟩) (by show g + 1 < _; omega)).trans h2, (hx.cell (p := ⟨g + 1, 1, none⟩) (by show g + 1 < _; omega)).trans h3, h4.trans (hx.mono hs)⟩

theorem wrong_ab (w : World) (F : Nat → Prop) (v : Value) (ll : List Bs) (a b : Nat) (h : wrongS ll = (a, b)) (hl : BList w F v ll) :
    Calls Try.prog 33 #[v] w fun e w' => e = .returned (.agg #[.int .i64 (a : Int), .int .i64 (b : Int)]) ∧ Below w.heap.size w w' := by
  refine (wrong_any w F v ll hl).mono ?_
  rintro e w' ⟨rfl, hx⟩
  rw [h]
  exact ⟨rfl, hx⟩

set_option maxRecDepth 100000 in
set_option maxHeartbeats 4000000 in
theorem shelfTurns_walk (w : World) (v0 : Value) (l : List Bs) (h0 : BList w (fun _ => True) v0 l) :
    Calls Try.prog 6 #[v0] w fun e w' => e = .returned (.bool true) ∧ Below w.heap.size w w' := by
  obtain ⟨A, c, hv0, hlc, hcm, _⟩ := h0.shape
  subst hv0
  unfold maxLen at hcm
  go_enter Try.func6, Try.ntmps6
  go_wp2_with fail
  with_reducible refine (alive5 w).mono ?_
  rintro e w1 ⟨rfl, hx1⟩
  have hl1 := h0.below hx1
  go_wp2_with fail
  by_cases hf : Fine l
  · with_reducible refine (export_fine w1 _ _ l hl1 hf).mono ?_
    rintro e w2 ⟨vr, vs, rfl, hor, hos, hx2⟩
    have hx3 := hx1.trans (hx2.mono hx1.size)
    obtain ⟨Ar, cr, hvr, _, _⟩ := Own.shape hor
    obtain ⟨As, cs, hvs, _, _⟩ := hos.shape
    subst hvr hvs
    have hl2 := hl1.below hx2
    have hx4 := (hx3.alloc hx3.size (.cells #[.int .i64 (l.length : Int), .slice Ar (Tr.rootL l).length cr, .slice As (Shf.segsOf l).length cs] 58)).alloc (by have := hx3.size; simp; omega) (.cells #[.int .i64 0, .int .i64 0] 41)
    have hkm : Blk ((w2.alloc (.cells #[.int .i64 (l.length : Int), .slice Ar (Tr.rootL l).length cr, .slice As (Shf.segsOf l).length cs] 58)).alloc (.cells #[.int .i64 0, .int .i64 0] 41)) w2.heap.size 58 #[.int .i64 (l.length : Int), .slice Ar (Tr.rootL l).length cr, .slice As (Shf.segsOf l).length cs] := Blk.alloc (heap_alloc_new w2 _) _
    have hor2 := ((OwnB.bytes hor).alloc (.cells #[.int .i64 (l.length : Int), .slice Ar (Tr.rootL l).length cr, .slice As (Shf.segsOf l).length cs] 58)).alloc (.cells #[.int .i64 0, .int .i64 0] 41)
    have hos2 := (hos.rd.alloc (.cells #[.int .i64 (l.length : Int), .slice Ar (Tr.rootL l).length cr, .slice As (Shf.segsOf l).length cs] 58)).alloc (.cells #[.int .i64 0, .int .i64 0] 41)
    have hl3 := (hl2.alloc (.cells #[.int .i64 (l.length : Int), .slice Ar (Tr.rootL l).length cr, .slice As (Shf.segsOf l).length cs] 58)).alloc (.cells #[.int .i64 0, .int .i64 0] 41)
    clear hl1 hl2 hor hos hx2
    go_upto_region 6 with (fail)
    generalize ((w2.alloc (.cells #[.int .i64 (l.length : Int), .slice Ar (Tr.rootL l).length cr, .slice As (Shf.segsOf l).length cs] 58)).alloc (.cells #[.int .i64 0, .int .i64 0] 41)) = w3 at *
    generalize w2.heap.size = g1 at *
    generalize hnr : (Tr.rootL l).length = nr at *
    generalize hns : (Shf.segsOf l).length = ns at *
    have HNR := Lib.hid hnr
    have HNS := Lib.hid hns
    have HF := Lib.hid hf
    clear hnr hns hf
    go_wp2_with fail
    with_reducible refine (Root_fine w3 _ _ l hl3 HF.out).mono ?_
    rintro e w4 ⟨rv, rfl, ho4, hx5⟩
    have hrl : Tr.root (l.map Tr.leafH) = Tr.rootL l := rfl
    rw [hrl] at ho4
    clear hrl
    obtain ⟨A4, c4, hv4, _, _⟩ := Own.shape ho4
    rw [HNR.out] at hv4
    subst hv4
    have hx6 := hx4.trans (hx5.mono hx4.size)
    have hx7 := hx6.alloc hx6.size (.cells #[.int .i64 0, .int .i64 0] 41)
    have hkm4 := (hkm.below hx5 hkm.lt).alloc (.cells #[.int .i64 0, .int .i64 0] 41)
    have hor4 := (hor2.below hx5).alloc (.cells #[.int .i64 0, .int .i64 0] 41)
    have hos4 := (hos2.below hx5).alloc (.cells #[.int .i64 0, .int .i64 0] 41)
    have hl4 := (hl3.below hx5).alloc (.cells #[.int .i64 0, .int .i64 0] 41)
    have hrt4 := (OwnB.bytes ho4).alloc (.cells #[.int .i64 0, .int .i64 0] 41)
    clear hkm hor2 hos2 hl3 hx5 ho4
    go_upto_region 7 with (fail)
    generalize w4.alloc (.cells #[.int .i64 0, .int .i64 0] 41) = w5 at *
    have m0 : w5.cell? ⟨g1, 0, none⟩ = some (.int .i64 (l.length : Int)) := hkm4.cell 0
    have m1 : w5.cell? ⟨g1, 1, none⟩ = some (.slice Ar nr cr) := hkm4.cell 1
    have m2 : w5.cell? ⟨g1, 2, none⟩ = some (.slice As ns cs) := hkm4.cell 2
    go_wp2_with fail
    with_reducible refine (verify_man w5 _ _ _ _ l _ rfl HF.out hor4 hos4).mono ?_
    rintro e w6 ⟨v6, rfl, ho6, hx8⟩
    obtain ⟨A6, c6, hv6, _⟩ := ho6.blist.shape
    subst hv6
    have hx9 := hx7.trans (hx8.mono hx7.size)
    have hx10 := hx9.alloc hx9.size (.cells #[.int .i64 0, .int .i64 0] 41)
    have hkm6 := (hkm4.below hx8 hkm4.lt).alloc (.cells #[.int .i64 0, .int .i64 0] 41)
    have hor6 := (hor4.below hx8).alloc (.cells #[.int .i64 0, .int .i64 0] 41)
    have hos6 := (hos4.below hx8).alloc (.cells #[.int .i64 0, .int .i64 0] 41)
    have hl6 := (hl4.below hx8).alloc (.cells #[.int .i64 0, .int .i64 0] 41)
    have hrt6 := (hrt4.below hx8).alloc (.cells #[.int .i64 0, .int .i64 0] 41)
    have hL6 := ho6.blist.alloc (.cells #[.int .i64 0, .int .i64 0] 41)
    have hkf6 : Blk (w6.alloc (.cells #[.int .i64 0, .int .i64 0] 41)) w6.heap.size 41 #[.int .i64 0, .int .i64 0] := heap_alloc_new w6 _
    clear hkm4 hor4 hos4 hl4 hrt4 hx8 ho6 m0 m1 m2
    go_upto_region 8 with (fail)
    generalize w6.alloc (.cells #[.int .i64 0, .int .i64 0] 41) = w7 at *
    generalize w6.heap.size = g6 at *
    have f0 : w7.cell? ⟨g6, 0, none⟩ = some (.int .i64 0) := hkf6.cell 0
    have m0 : w7.cell? ⟨g1, 0, none⟩ = some (.int .i64 (l.length : Int)) := hkm6.cell 0
    have m1 : w7.cell? ⟨g1, 1, none⟩ = some (.slice Ar nr cr) := hkm6.cell 1
    have m2 : w7.cell? ⟨g1, 2, none⟩ = some (.slice As ns cs) := hkm6.cell 2
    have hneB : ((l.length : Int) != (l.length : Int)) = false := by simp
    go_wp2_with fail
    with_reducible refine (same2_yes w7 _ _ _ _ l hL6 hl6).mono ?_
    rintro e w8 ⟨rfl, n, hw8⟩
    have hkm8 := hkm6.drewN n
    have hor8 := hor6.drewN n
    have hos8 := hos6.drewN n
    have hl8 := hl6.drewN n
    have hrt8 := hrt6.drewN n
    have hx11 := below_drewN hx10 n
    rw [← hw8] at hkm8 hor8 hos8 hl8 hrt8 hx11
    have n0 : w8.cell? ⟨g1, 0, none⟩ = some (.int .i64 (l.length : Int)) := hkm8.cell 0
    have n1 : w8.cell? ⟨g1, 1, none⟩ = some (.slice Ar nr cr) := hkm8.cell 1
    clear hw8 hkm6 hor6 hos6 hl6 hrt6 hL6 hkf6 f0 m0 m1 m2
    go_wp2_with fail
    have hsame := same_any w8 _ _ _ _ (Tr.rootL l) (Tr.rootL l) hor8 hrt8
    simp only [beq_self_eq_true] at hsame
    have HSM := Lib.hid hsame
    clear hsame
    with_reducible refine HSM.out.mono ?_
    rintro e w9 ⟨rfl, n', hw9⟩
    have hkm9 := hkm8.drewN n'
    have hos9 := hos8.drewN n'
    have hl9 := hl8.drewN n'
    have hx12 := below_drewN hx11 n'
    rw [← hw9] at hkm9 hos9 hl9 hx12
    clear hw9 hkm8 hor8 hos8 hl8 hrt8 n0 n1 HSM
    go_wp2_with fail
    go_loopg [69] l.length (fun k i wr => ∃ j : Nat, j + k = l.length ∧ i = .int .i64 (j : Int) ∧ Blk wr g1 58 #[.int .i64 (l.length : Int), .slice Ar nr cr, .slice As ns cs] ∧ RdL wr (fun k => w1.heap.size ≤ k) (.slice As ns cs) (Shf.segsOf l) ∧ BList wr (fun _ => True) (.slice A l.length c) l ∧ Below w.heap.size w wr)
    case atStart => exact ⟨0, by omega, rfl, hkm9, hos9, hl9, hx12⟩
    case round =>
      obtain ⟨j, hj, rfl, hkr, hosr, hlr, hxr⟩ := hrel
      have d0 : wr.cell? ⟨g1, 0, none⟩ = some (.int .i64 (l.length : Int)) := hkr.cell 0
      have d1 : wr.cell? ⟨g1, 1, none⟩ = some (.slice Ar nr cr) := hkr.cell 1
      have d2 : wr.cell? ⟨g1, 2, none⟩ = some (.slice As ns cs) := hkr.cell 2
      by_cases hlt : j < l.length
      · have hltB : (j : Int) < (l.length : Int) := by omega
        have hj0 : (0 : Int) ≤ (j : Int) := by omega
        go_wp2_with fail
        with_reducible refine (entry_man wr _ _ _ l _ rfl HF.out hosr j hlt _ rfl).mono ?_
        rintro e wa ⟨va, rfl, hoa, hxa⟩
        have hlb := hlr.below hxa
        obtain ⟨b1, o1, u1, hA1, p1, _, hb1, hu1⟩ := BList.at_ hlb hlt
        subst hA1
        have hkb := hkr.below hxa hkr.lt
        have hosb := hosr.below hxa
        have hxb := hxr.trans (hxa.mono hxr.size)
        generalize l[j] = e1 at *
        have hsame := same_any wa _ _ _ _ e1 e1 (OwnB.bytes hoa) hu1
        simp only [beq_self_eq_true] at hsame
        have HSM := Lib.hid hsame
        obtain ⟨A8, c8, hv8, _, _⟩ := Own.shape hoa
        subst hv8
        clear hsame d0 d1 d2
        go_wp2_with fail
        with_reducible refine HSM.out.mono ?_
        rintro e wb ⟨rfl, m, hwb⟩
        have hkc := hkb.drewN m
        have hosc := hosb.drewN m
        have hlc2 := hlb.drewN m
        have hxc := below_drewN hxb m
        rw [← hwb] at hkc hosc hlc2 hxc
        clear hwb
        go_wp2_with fail
        go_roundg (gk - 1)
        case measure => omega
        case rel => exact ⟨j + 1, by omega, by go_num, hkc, hosc, hlc2, hxc⟩
      · have hltB : decide ((j : Int) < (l.length : Int)) = false := decide_eq_false (by omega)
        go_wp2_with fail
        go_ret
        exact ⟨rfl, hxr⟩
  · with_reducible refine (export_bad w1 _ _ l hl1 hf).mono ?_
    rintro e w2 ⟨a, b, rfl, hw, ha, hx2⟩
    have hx3 := hx1.trans (hx2.mono hx1.size)
    have hx4 := (hx3.alloc hx3.size (.cells #[.int .i64 0, .slice none 0 0, .slice none 0 0] 58)).alloc (by have := hx3.size; simp; omega) (.cells #[.int .i64 (a : Int), .int .i64 (b : Int)] 41)
    have hkm : Blk ((w2.alloc (.cells #[.int .i64 0, .slice none 0 0, .slice none 0 0] 58)).alloc (.cells #[.int .i64 (a : Int), .int .i64 (b : Int)] 41)) w2.heap.size 58 #[.int .i64 0, .slice none 0 0, .slice none 0 0] := Blk.alloc (heap_alloc_new w2 _) _
    have hkf : Blk ((w2.alloc (.cells #[.int .i64 0, .slice none 0 0, .slice none 0 0] 58)).alloc (.cells #[.int .i64 (a : Int), .int .i64 (b : Int)] 41)) (w2.heap.size + 1) 41 #[.int .i64 (a : Int), .int .i64 (b : Int)] := by
      have := heap_alloc_new (w2.alloc (.cells #[.int .i64 0, .slice none 0 0, .slice none 0 0] 58)) (.cells #[.int .i64 (a : Int), .int .i64 (b : Int)] 41)
      rw [World.size_alloc] at this
      exact this
    have hl3 := ((hl1.below hx2).alloc (.cells #[.int .i64 0, .slice none 0 0, .slice none 0 0] 58)).alloc (.cells #[.int .i64 (a : Int), .int .i64 (b : Int)] 41)
    have HW := Lib.hid hw
    clear hl1 hx2 hf hw
    go_upto_region 5 with (fail)
    generalize ((w2.alloc (.cells #[.int .i64 0, .slice none 0 0, .slice none 0 0] 58)).alloc (.cells #[.int .i64 (a : Int), .int .i64 (b : Int)] 41)) = w3 at *
    generalize w2.heap.size = g1 at *
    have m2 : w3.cell? ⟨g1, 2, none⟩ = some (.slice none 0 0) := hkm.cell 2
    have f0 : w3.cell? ⟨g1 + 1, 0, none⟩ = some (.int .i64 (a : Int)) := hkf.cell 0
    have f1 : w3.cell? ⟨g1 + 1, 1, none⟩ = some (.int .i64 (b : Int)) := hkf.cell 1
    have hsz : g1 + 1 < w3.heap.size := hkf.lt
    go_region_held3 (fun z : World => z.cell? ⟨g1, 2, none⟩ = some (.slice none 0 0) ∧ z.cell? ⟨g1 + 1, 0, none⟩ = some (.int .i64 (a : Int)) ∧ z.cell? ⟨g1 + 1, 1, none⟩ = some (.int .i64 (b : Int)) ∧ Below w3.heap.size w3 z) (first | assumption | exact ⟨m2, f0, f1, (Below.refl _ _).drew⟩)
      (first
        | ((with_reducible refine (wrong_ab _ (fun _ => True) (.slice A l.length c) l a b HW.out (hl3.below (by exact And.right (And.right (And.right (by assumption)))))).mono ?_)
           rintro e w4 ⟨rfl, hx5⟩
           have hS1 := keep4 hsz (by assumption) hx5))
    go_wp2_with fail
    go_ret
    exact ⟨rfl, hx4.drew.trans (hx5.mono hx4.size)⟩
end Go.Proofs.Ytgbjfilkecmmgaa
