/-
  THE WALK of FleetPast. Conditions: what comes in is read.
-/
import Derived.Test.YtnpfmboolbhpaaaZGp
import Derived.Test.YtnpfmboolbhpaaaZFleetL7
import Derived.Test.YtnpfmboolbhpaaaZGw
namespace Go.Proofs.Ytnpfmboolbhpaaa
open Go.RowKit Go.Lib

set_option maxRecDepth 100000 in
set_option maxHeartbeats 8000000 in
theorem fleetPast_walk (w : World) (v0 : Value) (l0 : List (Int × Int)) (h0 : RdL w (fun _ => True) v0 l0) (v1 : Value) (l1 : List Dob) (h1 : RdL w (fun _ => True) v1 l1) (n2 : Int) :
    Calls Try.prog 8 #[v0, v1, .int .i64 n2] w fun e w' => e = .returned (.bool true) ∧ Below w.heap.size w w' := by
  obtain ⟨A0, c0, hv0, hn0, hm0⟩ := h0.form
  obtain ⟨A1, c1, hv1, hn1, hm1⟩ := h1.form
  subst hv0 hv1
  unfold maxLen at hm0 hm1
  go_enter Try.func8, Try.ntmps8
  go_wp2_with fail
  with_reducible refine (alive7 w).mono ?_
  rintro e w1 ⟨rfl, hx1⟩
  by_cases hneg : n2 < 0
  · have hnegB : decide (n2 < 0) = true := decide_eq_true hneg
    go_wp2_with fail
    go_ret
    exact ⟨rfl, hx1⟩
  have hnegB : decide (n2 < 0) = false := decide_eq_false hneg
  by_cases hbig : (l1.length : Int) < n2
  · have hbigB : decide ((l1.length : Int) < n2) = true := decide_eq_true hbig
    go_wp2_with fail
    go_ret
    exact ⟨rfl, hx1⟩
  obtain ⟨k, hk⟩ : ∃ k : Nat, n2 = (k : Int) := ⟨n2.toNat, by omega⟩
  subst hk
  have hbigB : decide (l1.length < k) = false := decide_eq_false (by omega)
  have hkl : k ≤ l1.length := by omega
  have hkc : k ≤ c1 := by omega
  have hkI : (k : Int) ≤ (c1 : Int) := by omega
  have hk0 : (0 : Int) ≤ (k : Int) := by omega
  clear hneg hbig
  obtain ⟨fx, lax, ax, bx, hpl⟩ : ∃ f la a b, Fl.play l0 l1 = (f, la, (a, b)) := ⟨_, _, _, _, rfl⟩
  have HP := Lib.hid (play_any w1 _ _ _ _ l0 l1 (h0.below hx1) (h1.below hx1))
  rw [hpl] at HP
  have HPLx := Lib.hid hpl
  clear hpl
  go_wp2_with fail
  refine HP.out.mono ?_
  rintro e w2 ⟨vs, vb, va, rfl, qsx, qbx, qax, hxpx⟩
  simp only at qsx qbx qax ⊢
  replace qsx := qsx.weak (F' := fun b => b < w2.heap.size) fun b hb _ => hb
  replace qbx := qbx.weak (F' := fun b => b < w2.heap.size) fun b hb _ => hb
  replace qax := qax.weak (F' := fun b => b < w2.heap.size) fun b hb _ => hb
  obtain ⟨Asx, csx, hvs, hlsx, hcsx⟩ := qsx.form
  obtain ⟨Abx, cbx, hvb, hlbx, hcbx⟩ := qbx.form
  obtain ⟨Aax, cax, hva, hlax, hcax⟩ := qax.form
  unfold maxLen at hcsx hcbx hcax
  subst hvs hvb hva
  clear HP
  go_upto_region 6 with (fail)
  have hxqx := ((Below.refl w2.heap.size w2).alloc (Nat.le_refl _) (.cells #[.slice Asx fx.sh.length csx, .slice Abx fx.book.length cbx] 35)).alloc (by simp) (.cells #[.int .i64 (ax : Int), .int .i64 (bx : Int)] 39)
  have hbFx : Blk ((w2.alloc (.cells #[.slice Asx fx.sh.length csx, .slice Abx fx.book.length cbx] 35)).alloc (.cells #[.int .i64 (ax : Int), .int .i64 (bx : Int)] 39)) w2.heap.size 35 #[.slice Asx fx.sh.length csx, .slice Abx fx.book.length cbx] := Blk.alloc (heap_alloc_new w2 _) _
  have hbWx : Blk ((w2.alloc (.cells #[.slice Asx fx.sh.length csx, .slice Abx fx.book.length cbx] 35)).alloc (.cells #[.int .i64 (ax : Int), .int .i64 (bx : Int)] 39)) (w2.heap.size + 1) 39 #[.int .i64 (ax : Int), .int .i64 (bx : Int)] := by
    have := heap_alloc_new (w2.alloc (.cells #[.slice Asx fx.sh.length csx, .slice Abx fx.book.length cbx] 35)) (.cells #[.int .i64 (ax : Int), .int .i64 (bx : Int)] 39)
    rw [World.size_alloc] at this
    exact this
  generalize ((w2.alloc (.cells #[.slice Asx fx.sh.length csx, .slice Abx fx.book.length cbx] 35)).alloc (.cells #[.int .i64 (ax : Int), .int .i64 (bx : Int)] 39)) = w3 at *
  have hxsx := hxpx.trans (hxqx.mono hxpx.size)
  have hxxB := hx1.trans (hxsx.mono hx1.size)
  replace qsx := qsx.below hxqx
  replace qbx := qbx.below hxqx
  replace qax := qax.below hxqx
  have hgwx : w1.heap.size ≤ w2.heap.size := hxpx.size
  clear hxpx hxqx
  generalize w2.heap.size = gx at *
  obtain ⟨fq, laq, aq, bq, hpl⟩ : ∃ f la a b, Fl.play l0 (l1.take k) = (f, la, (a, b)) := ⟨_, _, _, _, rfl⟩
  have HP := Lib.hid (play_any w3 _ _ _ _ l0 (l1.take k) (h0.below hxxB) ((h1.below hxxB).first k hkl))
  rw [hpl] at HP
  have HPLq := Lib.hid hpl
  clear hpl
  go_wp2_with fail
  refine HP.out.mono ?_
  rintro e w4 ⟨vs, vb, va, rfl, qsq, qbq, qaq, hxpq⟩
  simp only at qsq qbq qaq ⊢
  replace qsq := qsq.weak (F' := fun b => b < w4.heap.size) fun b hb _ => hb
  replace qbq := qbq.weak (F' := fun b => b < w4.heap.size) fun b hb _ => hb
  replace qaq := qaq.weak (F' := fun b => b < w4.heap.size) fun b hb _ => hb
  obtain ⟨Asq, csq, hvs, hlsq, hcsq⟩ := qsq.form
  obtain ⟨Abq, cbq, hvb, hlbq, hcbq⟩ := qbq.form
  obtain ⟨Aaq, caq, hva, hlaq, hcaq⟩ := qaq.form
  unfold maxLen at hcsq hcbq hcaq
  subst hvs hvb hva
  clear HP
  go_upto_region 7 with (fail)
  have hxqq := ((Below.refl w4.heap.size w4).alloc (Nat.le_refl _) (.cells #[.slice Asq fq.sh.length csq, .slice Abq fq.book.length cbq] 35)).alloc (by simp) (.cells #[.int .i64 (aq : Int), .int .i64 (bq : Int)] 39)
  have hbFq : Blk ((w4.alloc (.cells #[.slice Asq fq.sh.length csq, .slice Abq fq.book.length cbq] 35)).alloc (.cells #[.int .i64 (aq : Int), .int .i64 (bq : Int)] 39)) w4.heap.size 35 #[.slice Asq fq.sh.length csq, .slice Abq fq.book.length cbq] := Blk.alloc (heap_alloc_new w4 _) _
  have hbWq : Blk ((w4.alloc (.cells #[.slice Asq fq.sh.length csq, .slice Abq fq.book.length cbq] 35)).alloc (.cells #[.int .i64 (aq : Int), .int .i64 (bq : Int)] 39)) (w4.heap.size + 1) 39 #[.int .i64 (aq : Int), .int .i64 (bq : Int)] := by
    have := heap_alloc_new (w4.alloc (.cells #[.slice Asq fq.sh.length csq, .slice Abq fq.book.length cbq] 35)) (.cells #[.int .i64 (aq : Int), .int .i64 (bq : Int)] 39)
    rw [World.size_alloc] at this
    exact this
  generalize ((w4.alloc (.cells #[.slice Asq fq.sh.length csq, .slice Abq fq.book.length cbq] 35)).alloc (.cells #[.int .i64 (aq : Int), .int .i64 (bq : Int)] 39)) = w5 at *
  have hxsq := hxpq.trans (hxqq.mono hxpq.size)
  have hxqB := hxxB.trans (hxsq.mono hxxB.size)
  replace qsq := qsq.below hxqq
  replace qbq := qbq.below hxqq
  replace qaq := qaq.below hxqq
  have hgwq : w3.heap.size ≤ w4.heap.size := hxpq.size
  clear hxpq hxqq
  generalize w4.heap.size = gq at *
  have qax5 := qax.below hxsq
  have e1 : w5.cell? ⟨gx + 1, 0, none⟩ = some (.int .i64 (ax : Int)) := (hbWx.below hxsq hbWx.lt).cell 0
  have e2 : w5.cell? ⟨gq + 1, 0, none⟩ = some (.int .i64 (aq : Int)) := hbWq.cell 0
  by_cases hax : ax = 0
  · by_cases haq : aq = 0
    · have hneX : ((ax : Int) != 0) = false := by rw [bne_eq_false_iff_eq]; omega
      have hneY : ((aq : Int) != 0) = false := by rw [bne_eq_false_iff_eq]; omega
      obtain ⟨-, -, px, -, -⟩ := Fl.play_ok (b := bx) (HPLx.out.trans (by rw [hax]))
      obtain ⟨-, -, py, -, -⟩ := Fl.play_ok (b := bq) (HPLq.out.trans (by rw [haq]))
      have hlx : Hid (lax.length = l1.length) := Lib.hid (by rw [px, Fl.length_run])
      have hly : Hid (laq.length = k) := Lib.hid (by rw [py, Fl.length_run, List.length_take]; omega)
      have hxy : Hid (laq = lax.take k) := Lib.hid (by rw [px, py, Fl.run_take])
      have hB1 : ((laq.length : Int) == (k : Int)) = true := by rw [hly.out]; simp
      have hB2 : ((lax.length : Int) == (l1.length : Int)) = true := by rw [hlx.out]; simp
      clear px py hax haq hbWx hbWq
      go_wp2_with fail
      go_loopg [50] laq.length (fun m i wr => ∃ j : Nat, j + m = laq.length ∧ i = .int .i64 (j : Int) ∧ Below w5.heap.size w5 wr)
      case atStart => exact ⟨0, by omega, rfl, Below.refl _ _⟩
      case round =>
        obtain ⟨j, hj, rfl, hx⟩ := hrel
        have hxr := hxqB.trans (hx.mono hxqB.size)
        by_cases hlt : j < laq.length
        · have hlt2 : j < lax.length := by have := hly.out; have := hlx.out; omega
          obtain ⟨g1, o1, k1, u1, hA1, _, hg1, a0, a1, a2, a3, a4, hu1⟩ := ans_at (qax5.below hx) hlt2
          obtain ⟨g2, o2, k2, u2, hA2, _, hg2, d0, d1, d2, d3, d4, hu2⟩ := ans_at (qaq.below hx) hlt
          injection hA1 with hA1 _ hA3
          subst hA1 hA3
          injection hA2 with hA2 _ hA3
          subst hA2 hA3
          have hee : laq[j] = lax[j] := by
            have h := hxy.out
            simp only [h, List.getElem_take]
          rw [hee] at d0 d1 d2 d3 hu2
          have hltB : (j : Int) < (laq.length : Int) := by omega
          have hlt2B : (j : Int) < (lax.length : Int) := by omega
          have hj0 : (0 : Int) ≤ (j : Int) := by omega
          clear hee
          generalize lax[j] = r at *
          obtain ⟨re, rs, rp, rz, rr⟩ := r
          simp only at a0 a1 a2 a3 a4 d0 d1 d2 d3 d4 hu1 hu2
          have hSS : ∀ z : World, (∀ k, k < wr.heap.size → z.heap[k]? = wr.heap[k]?) → Below w.heap.size w z → (z.cell? ⟨g1, o1 + j * 5, none⟩ = some (.int .i64 (re : Int)) ∧ z.cell? ⟨g1, o1 + j * 5 + 1, none⟩ = some (.int .i64 rs) ∧ z.cell? ⟨g1, o1 + j * 5 + 2, none⟩ = some (.int .i64 rp) ∧ z.cell? ⟨g1, o1 + j * 5 + 3, none⟩ = some (.int .i64 rz) ∧ z.cell? ⟨g1, o1 + j * 5 + 4, none⟩ = some (u1) ∧ z.cell? ⟨g2, o2 + j * 5, none⟩ = some (.int .i64 (re : Int)) ∧ z.cell? ⟨g2, o2 + j * 5 + 1, none⟩ = some (.int .i64 rs) ∧ z.cell? ⟨g2, o2 + j * 5 + 2, none⟩ = some (.int .i64 rp) ∧ z.cell? ⟨g2, o2 + j * 5 + 3, none⟩ = some (.int .i64 rz) ∧ z.cell? ⟨g2, o2 + j * 5 + 4, none⟩ = some (u2) ∧ Below w.heap.size w z) := fun z hz hzw => ⟨(World.cell?_of_block (hz _ hg1)).trans a0, (World.cell?_of_block (hz _ hg1)).trans a1, (World.cell?_of_block (hz _ hg1)).trans a2, (World.cell?_of_block (hz _ hg1)).trans a3, (World.cell?_of_block (hz _ hg1)).trans a4, (World.cell?_of_block (hz _ hg2)).trans d0, (World.cell?_of_block (hz _ hg2)).trans d1, (World.cell?_of_block (hz _ hg2)).trans d2, (World.cell?_of_block (hz _ hg2)).trans d3, (World.cell?_of_block (hz _ hg2)).trans d4, hzw⟩
          go_upto_region 12 with (fail)
          refine wp_region_held_drew (S := (fun z : World => z.cell? ⟨g1, o1 + j * 5, none⟩ = some (.int .i64 (re : Int)) ∧ z.cell? ⟨g1, o1 + j * 5 + 1, none⟩ = some (.int .i64 rs) ∧ z.cell? ⟨g1, o1 + j * 5 + 2, none⟩ = some (.int .i64 rp) ∧ z.cell? ⟨g1, o1 + j * 5 + 3, none⟩ = some (.int .i64 rz) ∧ z.cell? ⟨g1, o1 + j * 5 + 4, none⟩ = some (u1) ∧ z.cell? ⟨g2, o2 + j * 5, none⟩ = some (.int .i64 (re : Int)) ∧ z.cell? ⟨g2, o2 + j * 5 + 1, none⟩ = some (.int .i64 rs) ∧ z.cell? ⟨g2, o2 + j * 5 + 2, none⟩ = some (.int .i64 rp) ∧ z.cell? ⟨g2, o2 + j * 5 + 3, none⟩ = some (.int .i64 rz) ∧ z.cell? ⟨g2, o2 + j * 5 + 4, none⟩ = some (u2) ∧ Below w.heap.size w z)) (by kernel_rfl) ?_ (fun hHeld => ?_)
          · exact hSS wr.drew (fun _ _ => rfl) hxr.drew
          refine step_take (i := 0) (v := ?_) rfl (by kernel_rfl) (by kernel_rfl) (by kernel_rfl) (fun _ _ _ h => h) (by rfl) ?yp1 (by assumption) ?_
          case yp1 => (intro w hSw; (try dsimp only at hSw); go_simp; (try with_reducible rfl))
          try simp only [Act.put, List.setIfInBounds_toArray, List.set_cons_zero, List.set_cons_succ]
          refine step_take (i := 1) (v := ?_) rfl (by kernel_rfl) (by kernel_rfl) (by kernel_rfl) (fun _ _ _ h => h) (by rfl) ?yp2 (by assumption) ?_
          case yp2 => (intro w hSw; (try dsimp only at hSw); go_simp; (try with_reducible rfl))
          try simp only [Act.put, List.setIfInBounds_toArray, List.set_cons_zero, List.set_cons_succ]
          refine step_take (i := 2) (v := ?_) rfl (by kernel_rfl) (by kernel_rfl) (by kernel_rfl) (fun _ _ _ h => h) (by rfl) ?yp3 (by assumption) ?_
          case yp3 => (intro w hSw; (try dsimp only at hSw); go_simp; (try with_reducible rfl))
          try simp only [Act.put, List.setIfInBounds_toArray, List.set_cons_zero, List.set_cons_succ]
          refine step_take (i := 3) (v := ?_) rfl (by kernel_rfl) (by kernel_rfl) (by kernel_rfl) (fun _ _ _ h => h) (by rfl) ?yp4 (by assumption) ?_
          case yp4 => (intro w hSw; (try dsimp only at hSw); go_simp; (try with_reducible rfl))
          try simp only [Act.put, List.setIfInBounds_toArray, List.set_cons_zero, List.set_cons_succ]
          refine step_take (i := 4) (v := ?_) rfl (by kernel_rfl) (by kernel_rfl) (by kernel_rfl) (fun _ _ _ h => h) (by rfl) ?yp5 (by assumption) ?_
          case yp5 => (intro w hSw; (try dsimp only at hSw); go_simp; (try with_reducible rfl))
          try simp only [Act.put, List.setIfInBounds_toArray, List.set_cons_zero, List.set_cons_succ]
          refine step_take (i := 5) (v := ?_) rfl (by kernel_rfl) (by kernel_rfl) (by kernel_rfl) (fun _ _ _ h => h) (by rfl) ?yp6 (by assumption) ?_
          case yp6 => (intro w hSw; (try dsimp only at hSw); go_simp; (try with_reducible rfl))
          try simp only [Act.put, List.setIfInBounds_toArray, List.set_cons_zero, List.set_cons_succ]
          refine step_take (i := 6) (v := ?_) rfl (by kernel_rfl) (by kernel_rfl) (by kernel_rfl) (fun _ _ _ h => h) (by rfl) ?yp7 (by assumption) ?_
          case yp7 => (intro w hSw; (try dsimp only at hSw); go_simp; (try with_reducible rfl))
          try simp only [Act.put, List.setIfInBounds_toArray, List.set_cons_zero, List.set_cons_succ]
          refine step_take (i := 7) (v := ?_) rfl (by kernel_rfl) (by kernel_rfl) (by kernel_rfl) (fun _ _ _ h => h) (by rfl) ?yp8 (by assumption) ?_
          case yp8 => (intro w hSw; (try dsimp only at hSw); go_simp; (try with_reducible rfl))
          try simp only [Act.put, List.setIfInBounds_toArray, List.set_cons_zero, List.set_cons_succ]
          refine step_alone 8 rfl (by kernel_rfl) (by rfl) (fun K hK => ?_)
          go_simp
          refine (sameAns_yes wr.drew _ _ (re : Int) rs rp rz u1 u2 rr (hu1.drewN 1) (hu2.drewN 1)).mono ?_
          rintro e w6 ⟨rfl, hx6⟩
          have hx6r := hx.drew.trans (hx6.mono hx.drew.size)
          have hS6 := hSS w6 (fun k hk => hx6.block k hk) (hxr.drew.trans (hx6.mono hxr.drew.size))
          go_simp
          refine hK.out _ _ ?_ (fun hHeld => ?_)
          · exact hS6
          clear hK K
          try simp only [Act.put, List.setIfInBounds_toArray, List.set_cons_zero, List.set_cons_succ]
          refine step_take (i := 9) (v := ?_) rfl (by kernel_rfl) (by kernel_rfl) (by kernel_rfl) (fun _ _ _ h => h) (by rfl) ?yp10 (by assumption) ?_
          case yp10 => (intro w hSw; (try dsimp only at hSw); go_simp; (try with_reducible rfl))
          try simp only [Act.put, List.setIfInBounds_toArray, List.set_cons_zero, List.set_cons_succ]
          refine wpAnyH_done (by kernel_rfl) ?_ _
          go_wp2_with fail
          go_roundg (gk - 1)
          case measure => omega
          case rel => exact ⟨j + 1, by omega, by go_num, hx6r⟩
        · have hltB : decide ((j : Int) < (laq.length : Int)) = false := decide_eq_false (by omega)
          go_wp2_with fail
          go_ret
          exact ⟨rfl, hxr⟩
    · have hneX : ((ax : Int) != 0) = false := by rw [bne_eq_false_iff_eq]; omega
      have hneY : ((aq : Int) != 0) = true := by rw [bne_iff_ne]; omega
      go_wp2_with fail
      go_ret
      exact ⟨rfl, hxqB⟩
  · have hneX : ((ax : Int) != 0) = true := by rw [bne_iff_ne]; omega
    go_wp2_with fail
    go_ret
    exact ⟨rfl, hxqB⟩
end Go.Proofs.Ytnpfmboolbhpaaa
