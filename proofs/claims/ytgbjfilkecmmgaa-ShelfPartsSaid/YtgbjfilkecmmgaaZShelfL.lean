/-
  THE WALK of yearlaw5.ShelfParts. Conditions: what comes in is read as a manifest.
-/
import Derived.Test.YtgbjfilkecmmgaaZGi
import Derived.Test.YtgbjfilkecmmgaaZGj
import Derived.Test.YtgbjfilkecmmgaaZGs
namespace Go.Proofs.Ytgbjfilkecmmgaa
open Go.RowKit Go.Lib

/-- all segments' entries, one behind the other -/
theorem allC_first {m : Man} (hm : Shf.shape m) (h : (Shf.allC m m.segs.length 0 []).1.1 = 0) {j : Nat} (hj : j < m.segs.length) : (Shf.segC m (j : Int)).1 = 0 ∧ ((Shf.segC m (j : Int)).2.length : Int) = m.segs[j].count ∧ m.segs[j].first = (j : Int) * 8 ∧ (j + 1 < m.segs.length → (Shf.segC m (j : Int)).2.length = 8) := by
  have hs := Shf.allC_get m m.segs.length 0 [] h j (by omega) (by omega)
  obtain ⟨hk, hf, _, hl, _⟩ := Shf.segC_ok hs
  obtain ⟨f0, f1, f2, f3, f4, f5⟩ := hf
  obtain ⟨s0, s1, s2⟩ := hm
  simp only [Int.toNat_natCast] at f3 f4 f5 hl
  exact ⟨hs, hl, f3, fun h => by omega⟩

set_option maxRecDepth 100000 in
set_option maxHeartbeats 4000000 in
theorem shelfParts_walk (w : World) (cs : List Value) (m : Man) (h0 : Rp.rd w (fun _ => True) cs m) :
    Calls Try.prog 7 #[.agg cs.toArray] w fun e w' => e = .returned (.bool true) ∧ Below w.heap.size w w' := by
  obtain ⟨i0, hi, hz0, hz1, hz2⟩ := info_parts info_bytes
  obtain ⟨vr, vs, hcs, hr, hs⟩ := rd_man h0
  subst hcs
  have hx0 := (Below.refl w.heap.size w).alloc (Nat.le_refl _) (.cells #[.int .i64 m.size, vr, vs] 58)
  have hk0 : Blk (w.alloc (.cells #[.int .i64 m.size, vr, vs] 58)) w.heap.size 58 #[.int .i64 m.size, vr, vs] := heap_alloc_new w _
  obtain ⟨Ar, cr, hvr⟩ := hr.form
  obtain ⟨As, cs', hvs, hnc, hcm⟩ := hs.form
  unfold maxLen at hcm
  subst hvr hvs
  go_enter Try.func7, Try.ntmps7
  go_wp2_with fail
  generalize w.alloc (.cells #[.int .i64 m.size, .slice Ar m.root.length cr, .slice As m.segs.length cs'] 58) = w0 at *
  with_reducible refine (alive5 w0).mono ?_
  rintro e w1 ⟨rfl, hx1⟩
  have hx2 := hx0.trans (hx1.mono hx0.size)
  have hk1 := hk0.below hx1 hk0.lt
  have hr1 := hr.below hx2
  have hs1 := hs.below hx2
  have e0 : w1.cell? ⟨w.heap.size, 0, none⟩ = some (.int .i64 m.size) := hk1.cell 0
  have e1 : w1.cell? ⟨w.heap.size, 1, none⟩ = some (.slice Ar m.root.length cr) := hk1.cell 1
  have e2 : w1.cell? ⟨w.heap.size, 2, none⟩ = some (.slice As m.segs.length cs') := hk1.cell 2
  go_wp2_with fail
  with_reducible refine (verify_any w1 _ _ _ _ m hr1 hs1).mono ?_
  unfold VerPost
  obtain ⟨V, HV⟩ : ∃ V, Hid (V = Shf.verC m) := ⟨_, Lib.hid rfl⟩
  rw [← HV.out]
  rintro e w2 ⟨v2, rfl, ho2, hx3⟩
  obtain ⟨⟨ea, eb⟩, el⟩ := V
  unfold fv
  simp only at ho2 ⊢
  have hx4 := hx2.trans (hx3.mono hx2.size)
  have hk2 := (hk1.below hx3 hk1.lt).alloc (.cells #[.int .i64 (ea : Int), .int .i64 (eb : Int)] 41)
  have hx5 := hx4.alloc hx4.size (.cells #[.int .i64 (ea : Int), .int .i64 (eb : Int)] 41)
  have hs2 := (hs1.below hx3).alloc (.cells #[.int .i64 (ea : Int), .int .i64 (eb : Int)] 41)
  have hL2 := ho2.alloc (.cells #[.int .i64 (ea : Int), .int .i64 (eb : Int)] 41)
  obtain ⟨A2, c2, hv2, hlc2, hcm2, _⟩ := ho2.blist.shape
  subst hv2
  unfold maxLen at hcm2
  clear ho2 hx3 e0 e1 e2 hs1 hr1 hk1 hx4
  by_cases hz : ea = 0
  · have hver : (Shf.verC m).1.1 = 0 := by rw [← HV.out]; exact hz
    obtain ⟨hsh, hall, _, hvv, hlen, hfin⟩ := Shf.verC_ok hver
    rw [← HV.out] at hvv hlen hfin
    simp only at hlen hfin
    have hel : el = (Shf.allC m m.segs.length 0 []).2 := by
      have := congrArg Prod.snd hvv
      exact this
    have hAll : Shf.allC m m.segs.length 0 [] = ((0, 0), el) := by rw [hel, ← hall]
    have hfst : ∀ j, (hj : j < m.segs.length) → (Shf.segC m (j : Int)).1 = 0 ∧ ((Shf.segC m (j : Int)).2.length : Int) = m.segs[j].count ∧ m.segs[j].first = (j : Int) * 8 ∧ (j + 1 < m.segs.length → (Shf.segC m (j : Int)).2.length = 8) := fun j hj => allC_first hsh (by rw [hAll]) hj
    have hsz := hsh
    obtain ⟨s0, s1, s2⟩ := hsz
    have hn13 : m.segs.length ≤ 13 := by omega
    have HA := Lib.hid hAll
    have HFS := Lib.hid hfst
    have HLEN : Hid ((el.length : Int) = m.size) := Lib.hid (by omega)
    subst hz
    clear hAll hfst hel hvv hlen hall hver s2
    go_upto_region 6 with (fail)
    generalize w2.alloc (.cells #[.int .i64 0, .int .i64 (eb : Int)] 41) = w3 at *
    have e2 : w3.cell? ⟨w.heap.size, 2, none⟩ = some (.slice As m.segs.length cs') := hk2.cell 2
    go_wp2_with fail
    go_loopg [5, 22] m.segs.length (fun k vo i wr => ∃ (j : Nat) (acc : List Bs), j + k = m.segs.length ∧ i = .int .i64 (j : Int) ∧ Hid (Shf.allC m k j acc = ((0, 0), el)) ∧ (k ≠ 0 → acc.length = 8 * j) ∧ acc.length ≤ 8 * j ∧ OwnL wr w3.heap.size vo acc ∧
      Blk wr w.heap.size 58 #[.int .i64 m.size, .slice Ar m.root.length cr, .slice As m.segs.length cs'] ∧ Below w3.heap.size w3 wr)
    case atStart => exact ⟨0, [], by omega, rfl, HA, fun _ => rfl, Nat.le_refl _, OwnL.nil_ _ _, hk2, Below.refl _ _⟩
    case round =>
      obtain ⟨j, acc, hj, rfl, HAC, hal, hal8, hown, hk3, hx6⟩ := hrel
      have d0 : wr.cell? ⟨w.heap.size, 0, none⟩ = some (.int .i64 m.size) := hk3.cell 0
      have d1 : wr.cell? ⟨w.heap.size, 1, none⟩ = some (.slice Ar m.root.length cr) := hk3.cell 1
      have d2 : wr.cell? ⟨w.heap.size, 2, none⟩ = some (.slice As m.segs.length cs') := hk3.cell 2
      by_cases hlt : j < m.segs.length
      · have hltB : (j : Int) < (m.segs.length : Int) := by omega
        obtain ⟨k, rfl⟩ : ∃ k, gk = k + 1 := ⟨gk - 1, by omega⟩
        obtain ⟨g1, g2, g3, g4⟩ := HFS.out j hlt
        obtain ⟨r, HR⟩ : ∃ r, Hid (r = Shf.segC m (j : Int)) := ⟨_, Lib.hid rfl⟩
        have hsn := (allC_snoc (n := k) (acc := acc) g1).symm.trans HAC.out
        rw [← HR.out] at g1 g2 g4 hsn
        obtain ⟨b1, o1, c1, A1, k1, hA1, _, hb1, q0, q1, q2, _⟩ := seg_at (hs2.below hx6) hlt
        injection hA1 with hA1 _ hA3
        subst hA1 hA3
        have hacc := hal (by omega)
        obtain ⟨ec, sl⟩ := r
        simp only at g1 g2 g4 hsn
        subst g1
        have HSN := Lib.hid hsn
        have hsl8 : sl.length ≤ 8 := by
          obtain ⟨hk, hf, _, hl, _⟩ := Shf.segC_ok (m := m) (k := (j : Int)) (by rw [← HR.out])
          obtain ⟨f0, f1, f2, f3, f4, f5⟩ := hf
          rw [← HR.out] at hl
          simp only at hl
          omega
        rw [← g2] at q1
        rw [g3] at q0
        have HG2 := Lib.hid g2
        have HG3 := Lib.hid g3
        clear hsn g2 g3 hal
        go_wp2_with fail
        with_reducible refine (segment_any wr _ _ _ m (j : Int) (hs2.below hx6)).mono ?_
        rw [← HR.out]
        rintro e w5 ⟨v5, rfl, ho5, hx7⟩
        simp only at ho5 ⊢
        have hk5 := hk3.below hx7 hk3.lt
        have r0 : w5.cell? ⟨w.heap.size, 2, none⟩ = some (.slice (some ⟨b1, o1, none⟩) m.segs.length cs') := hk5.cell 2
        have r1 := (hx7.cell (p := ⟨b1, o1 + j * 3, none⟩) hb1).trans q0
        have r2 := (hx7.cell (p := ⟨b1, o1 + j * 3 + 1, none⟩) hb1).trans q1
        have hx8 := hx6.trans (hx7.mono hx6.size)
        obtain ⟨vs1, hO, hin⟩ := hown.below hx7
        obtain ⟨us, hO2, hin2⟩ := ho5.mono hx6.size
        obtain ⟨A3, c3, hv3, hlc3, hcm3⟩ := Own.shape hO
        subst hv3
        obtain ⟨A4, c4, hv4, hlc4, hcm4⟩ := Own.shape hO2
        subst hv4
        have hsrc : SlAt w5 (fun _ => True) 1 (.slice A4 sl.length c4) sl.length us := hO2.slAt (fun _ _ => trivial)
        have hone : ∀ u ∈ us, u.oneCell' = true := fun u hu => by
          obtain ⟨q, hq, hqe⟩ := List.getElem_of_mem hu
          obtain ⟨u', hu', hb'⟩ := hin2 q (sl[q]'(by have := hO2.1; omega)) (List.getElem?_eq_getElem _)
          rw [List.getElem?_eq_getElem hq] at hu'
          injection hu' with hu'
          subst hu'
          obtain ⟨A', c', hv', _⟩ := Own.shape hb'
          rw [← hqe, hv']
          rfl
        have hneB : ((sl.length : Int) != (sl.length : Int)) = false := by simp
        have hneC : ((j : Int) * 8 != (acc.length : Int)) = false := by rw [bne_eq_false_iff_eq]; omega
        have HACC := Lib.hid hacc
        have hacc100 : acc.length ≤ 104 := by omega
        clear hacc d0 d1 d2 q0 q1 q2
        go_wp2_with (at_builtin
                     refine wpList_append_Own _ (by rfl) (.tmp 55) (.tmp 56) 39 (by rfl) w3.heap.size 22 i0 _ 1 24 Try.underlying39 hi hz0 hz1 hz2 (by rfl) (by omega) (.slice A3 acc.length c3) acc.length vs1 (by rfl) hO _ _ sl.length us (by rfl) hsrc hone (by simp only [maxLen]; omega) (by omega) (by have := hx8.size; omega) ?_
                     intro v6 w6 hown6 hgr6 hat6
                     have hL := OwnL.join hin hin2 hO hgr6 hown6
                     have hx9 : Below w3.heap.size w3 w6 := hx8.grown hgr6 hx8.size (fun k hk => (Own.lt hO k hk).1)
                     have hk6 := hk5.keep (hgr6.block _ hk5.lt (fun e => Own.ne_blk hO hk5 (by decide) e.symm)))
        go_roundg k
        case measure => omega
        case rel => exact ⟨j + 1, acc ++ sl, by omega, by go_num, HSN, fun hk => by rw [List.length_append, HACC.out, g4 (by omega)]; omega, by rw [List.length_append, HACC.out]; omega, hL, hk6, hx9⟩
      · have hltB : decide ((j : Int) < (m.segs.length : Int)) = false := decide_eq_false (by omega)
        have hk0' : gk = 0 := by omega
        subst hk0'
        have hae : acc = el := congrArg Prod.snd HAC.out
        subst hae
        have hsame := same2_yes wr _ _ _ _ acc hown.blist (hL2.blist.below hx6)
        obtain ⟨A3, c3, hv3, _⟩ := hown.blist.shape
        subst hv3
        have hlenB : ((acc.length : Int) == m.size) = true := by rw [HLEN.out]; simp
        have HLE := HLEN
        clear hal
        go_wp2_with fail
        with_reducible refine hsame.mono ?_
        rintro e w5 ⟨rfl, n, rfl⟩
        have q0 : (wr.drewN n).cell? ⟨w.heap.size, 0, none⟩ = some (.int .i64 m.size) := (hk3.drewN n).cell 0
        go_wp2_with fail
        go_ret
        exact ⟨rfl, below_drewN (hx5.trans (hx6.mono hx5.size)) n⟩
  · have heB : ((ea : Int) != 0) = true := by simp; omega
    go_wp2_with fail
    go_ret
    exact ⟨rfl, hx5⟩
end Go.Proofs.Ytgbjfilkecmmgaa
