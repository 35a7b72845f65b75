/-
  THE WALK of FleetEarly. Conditions: what comes in is read.
-/
import Derived.Test.YtnpfmboolbhpaaaZGp
import Derived.Test.YtnpfmboolbhpaaaZFleetL7
namespace Go.Proofs.Ytnpfmboolbhpaaa
open Go.RowKit Go.Lib

set_option maxRecDepth 100000 in
set_option maxHeartbeats 4000000 in
theorem fleetEarly_walk (w : World) (v0 : Value) (l0 : List (Int × Int)) (h0 : RdL w (fun _ => True) v0 l0) (v1 : Value) (l1 : List Dob) (h1 : RdL w (fun _ => True) v1 l1) (n2 n3 : Int) :
    Calls Try.prog 9 #[v0, v1, .int .i64 n2, .int .i64 n3] w fun e w' => e = .returned (.bool true) ∧ Below w.heap.size w w' := by
  obtain ⟨A0, c0, hv0, _, _⟩ := h0.form
  obtain ⟨A1, c1, hv1, _, _⟩ := h1.form
  subst hv0 hv1
  go_enter Try.func9, Try.ntmps9
  go_wp2_with fail
  with_reducible refine (alive7 w).mono ?_
  rintro e w1 ⟨rfl, hx1⟩
  obtain ⟨f, la, a, b, hpl⟩ : ∃ f la a b, Fl.play l0 l1 = (f, la, (a, b)) := ⟨_, _, _, _, rfl⟩
  have HP := Lib.hid (play_any w1 _ _ _ _ l0 l1 (h0.below hx1) (h1.below hx1))
  rw [hpl] at HP
  have HPL := Lib.hid hpl
  clear hpl
  go_wp2_with fail
  refine HP.out.mono ?_
  rintro e w2 ⟨vs, vb, va, rfl, q1, q2, q3, hx2⟩
  simp only at q1 q2 q3 ⊢
  obtain ⟨As, cs, hvs, _, hcs⟩ := q1.form
  obtain ⟨Ab, cb, hvb, _, hcb⟩ := q2.form
  obtain ⟨Aa, ca, hva, _, _⟩ := q3.form
  unfold maxLen at hcs hcb
  subst hvs hvb hva
  have hx12 := hx1.trans (hx2.mono hx1.size)
  go_upto_region 4 with (fail)
  have hx3 := ((Below.refl w2.heap.size w2).alloc (Nat.le_refl _) (.cells #[.slice As f.sh.length cs, .slice Ab f.book.length cb] 35)).alloc (by simp) (.cells #[.int .i64 (a : Int), .int .i64 (b : Int)] 39)
  have hbF : Blk ((w2.alloc (.cells #[.slice As f.sh.length cs, .slice Ab f.book.length cb] 35)).alloc (.cells #[.int .i64 (a : Int), .int .i64 (b : Int)] 39)) w2.heap.size 35 #[.slice As f.sh.length cs, .slice Ab f.book.length cb] := Blk.alloc (heap_alloc_new w2 _) _
  have hbW : Blk ((w2.alloc (.cells #[.slice As f.sh.length cs, .slice Ab f.book.length cb] 35)).alloc (.cells #[.int .i64 (a : Int), .int .i64 (b : Int)] 39)) (w2.heap.size + 1) 39 #[.int .i64 (a : Int), .int .i64 (b : Int)] := by
    have := heap_alloc_new (w2.alloc (.cells #[.slice As f.sh.length cs, .slice Ab f.book.length cb] 35)) (.cells #[.int .i64 (a : Int), .int .i64 (b : Int)] 39)
    rw [World.size_alloc] at this
    exact this
  generalize ((w2.alloc (.cells #[.slice As f.sh.length cs, .slice Ab f.book.length cb] 35)).alloc (.cells #[.int .i64 (a : Int), .int .i64 (b : Int)] 39)) = w3 at *
  have hx13 := hx12.trans (hx3.mono hx12.size)
  have q13 := q1.below hx3
  have q23 := q2.below hx3
  have e0 : w3.cell? ⟨w2.heap.size + 1, 0, none⟩ = some (.int .i64 (a : Int)) := hbW.cell 0
  have b0 : w3.cell? ⟨w2.heap.size, 0, none⟩ = some (.slice As f.sh.length cs) := hbF.cell 0
  have b1 : w3.cell? ⟨w2.heap.size, 1, none⟩ = some (.slice Ab f.book.length cb) := hbF.cell 1
  by_cases ha : a = 0
  · have hI := (Fl.play_ok (b := b) (HPL.out.trans (by rw [ha]))).1
    have hne : ((a : Int) != 0) = false := by rw [bne_eq_false_iff_eq]; omega
    clear ha
    have hlen8 := hI.len
    have hbook8 := hI.book_len
    have HSH := Lib.hid (show_any w3 _ _ _ _ f n2 n3 q13 q23 hI)
    obtain ⟨er, s, hsh⟩ : ∃ er s, Fl.showC f n2 n3 = (er, s) := ⟨_, _, rfl⟩
    rw [hsh] at HSH
    have HER : Hid ((Fl.showC f n2 n3).1 = er) := Lib.hid (by rw [hsh])
    clear hsh
    go_wp2_with fail
    with_reducible refine HSH.out.mono ?_
    rintro e w4 ⟨cs4, rfl, hrd, hx4⟩
    simp only at hrd ⊢
    obtain ⟨AE, cE, AP, cP, AR, cR, AB, cB, AH, cH, hcs4, _⟩ := shw_open hrd
    subst hcs4
    generalize s.entry.length = nE at *
    generalize s.path.length = nP at *
    generalize s.rcd.root.length = nR at *
    generalize s.bpath.length = nB at *
    generalize s.hroot.length = nH at *
    go_upto_region 7 with (fail)
    have hx5 := hx4.alloc hx4.size (.cells #[.slice AE nE cE, .int .i64 s.place, .int .i64 s.shard, .slice AP nP cP, .int .i64 s.rcd.sh, .int .i64 s.rcd.fr, .int .i64 s.rcd.to, .int .i64 s.rcd.sz, .slice AR nR cR, .int .i64 s.row, .slice AB nB cB, .int .i64 s.hsz, .slice AH nH cH] 31)
    generalize w4.alloc (.cells #[.slice AE nE cE, .int .i64 s.place, .int .i64 s.shard, .slice AP nP cP, .int .i64 s.rcd.sh, .int .i64 s.rcd.fr, .int .i64 s.rcd.to, .int .i64 s.rcd.sz, .slice AR nR cR, .int .i64 s.row, .slice AB nB cB, .int .i64 s.hsz, .slice AH nH cH] 31) = w5 at *
    have hx15 := hx13.trans (hx5.mono hx13.size)
    have q15 := q13.below hx5
    have q25 := q23.below hx5
    have hbF5 := hbF.below hx5 hbF.lt
    have b05 : w5.cell? ⟨w2.heap.size, 0, none⟩ = some (.slice As f.sh.length cs) := hbF5.cell 0
    have b15 : w5.cell? ⟨w2.heap.size, 1, none⟩ = some (.slice Ab f.book.length cb) := hbF5.cell 1
    by_cases hneg : n2 < 0
    · have hnegB : decide (n2 < 0) = true := decide_eq_true hneg
      have her : er = 6 := by rw [← HER.out, Fl.early_none n3 (.inl hneg)]
      subst her
      go_wp2_with fail
      go_ret
      exact ⟨rfl, hx15⟩
    have hnegB : decide (n2 < 0) = false := decide_eq_false hneg
    by_cases hge : (f.sh.length : Int) ≤ n2
    · have hgeB : decide ((f.sh.length : Int) ≤ n2) = true := decide_eq_true hge
      have her : er = 6 := by rw [← HER.out, Fl.early_none n3 (.inr hge)]
      subst her
      go_wp2_with fail
      go_ret
      exact ⟨rfl, hx15⟩
    have hgeB : decide ((f.sh.length : Int) ≤ n2) = false := decide_eq_false hge
    obtain ⟨k, hk⟩ : ∃ k : Nat, n2 = (k : Int) := ⟨n2.toNat, by omega⟩
    subst hk
    have hkl : k < f.sh.length := by omega
    have hks : f.sh[k]? = some f.sh[k] := List.getElem?_eq_getElem hkl
    go_upto_region 9 with (fail)
    clear hnegB hgeB hneg hge
    obtain ⟨gS, oS, cS, u1, u2, u3, hA1, _, hbS, hcS, _⟩ := shd_at q15 hkl
    injection hA1 with hA1 hA2 hA3
    clear hA2
    subst hA1 hA3
    have p2 : w5.cell? ⟨gS, oS + k * 7 + 2, none⟩ = some (.int .i64 f.sh[k].st) := hcS 2 _ rfl
    have hkB : (k : Int) < (f.sh.length : Int) := by omega
    have hk0 : (0 : Int) ≤ (k : Int) := by omega
    by_cases hst : f.sh[k].st = 1
    · have her : er = 8 := by rw [← HER.out, Fl.early_open hI hks hst]
      subst her
      rw [hst] at p2
      clear hst hcS
      go_wp2_with fail
      go_ret
      exact ⟨rfl, hx15⟩
    · have her : Hid (er = if 0 ≤ n3 ∧ n3 < Fl.lastN (k : Int) f.book then 0 else 6) := Lib.hid (by rw [← HER.out, Fl.early_last hI hks hst])
      have hstB : (f.sh[k].st == 1) = false := by rw [beq_eq_false_iff_ne]; exact hst
      generalize f.sh[k].st = st at *
      clear hst hcS hks
      go_wp2_with fail
      go_loopg [14, 61] f.book.length (fun m n i wr => ∃ j : Nat, j + m = f.book.length ∧ i = .int .i64 (j : Int) ∧ ∃ z : Int, n = .int .i64 z ∧ Hid (z = Fl.lastN (k : Int) (f.book.take j)) ∧ Below w5.heap.size w5 wr)
      case atStart => exact ⟨0, by omega, rfl, 0, rfl, Lib.hid rfl, Below.refl _ _⟩
      case round =>
        obtain ⟨j, hj, rfl, z, rfl, HZ, hx⟩ := hrel
        have hx1r := hx15.trans (hx.mono hx15.size)
        by_cases hlt : j < f.book.length
        · obtain ⟨gB, oB, cB', Ar, cr, hA1, _, hgB, r0, r1, r2, r3, r4, _⟩ := rec_at (q25.below hx) hlt
          injection hA1 with hA1 hA2 hA3
          clear hA2
          subst hA1 hA3
          have hltB : (j : Int) < (f.book.length : Int) := by omega
          have hj0 : (0 : Int) ≤ (j : Int) := by omega
          have HN := Lib.hid (Fl.lastN_snoc (k : Int) f.book hlt)
          generalize f.book[j] = r at *
          obtain ⟨rs, rf, rt, rz, rr⟩ := r
          simp only at r0 r1 r2 r3 r4 HN
          generalize rr.length = nr at *
          go_upto_region 15 with (fail)
          have hx6 := (Below.refl wr.heap.size wr).alloc (Nat.le_refl _) (.cells #[.int .i64 rs, .int .i64 rf, .int .i64 rt, .int .i64 rz, .slice Ar nr cr] 29)
          have hbR : Blk (wr.alloc (.cells #[.int .i64 rs, .int .i64 rf, .int .i64 rt, .int .i64 rz, .slice Ar nr cr] 29)) wr.heap.size 29 #[.int .i64 rs, .int .i64 rf, .int .i64 rt, .int .i64 rz, .slice Ar nr cr] := heap_alloc_new wr _
          generalize wr.alloc (.cells #[.int .i64 rs, .int .i64 rf, .int .i64 rt, .int .i64 rz, .slice Ar nr cr] 29) = w6 at *
          have hx56 := hx.trans (hx6.mono hx.size)
          have p0 : w6.cell? ⟨wr.heap.size, 0, none⟩ = some (.int .i64 rs) := hbR.cell 0
          have p3 : w6.cell? ⟨wr.heap.size, 3, none⟩ = some (.int .i64 rz) := hbR.cell 3
          by_cases hk : rs = (k : Int)
          · have hkB : (rs == (k : Int)) = true := by rw [beq_iff_eq]; exact hk
            have HN2 : Hid (rz = Fl.lastN (k : Int) (f.book.take (j + 1))) := Lib.hid (by rw [HN.out, if_pos hk])
            clear hk
            go_wp2_with fail
            go_roundg (gk - 1)
            case measure => omega
            case rel => exact ⟨j + 1, by omega, by go_num, rz, rfl, HN2, hx56⟩
          · have hkB : (rs == (k : Int)) = false := by rw [beq_eq_false_iff_ne]; exact hk
            have HN2 : Hid (z = Fl.lastN (k : Int) (f.book.take (j + 1))) := Lib.hid (by rw [HN.out, if_neg hk]; exact HZ.out)
            clear hk
            go_wp2_with fail
            go_roundg (gk - 1)
            case measure => omega
            case rel => exact ⟨j + 1, by omega, by go_num, z, rfl, HN2, hx56⟩
        · have hltB : decide ((j : Int) < (f.book.length : Int)) = false := decide_eq_false (by omega)
          have hz : z = Fl.lastN (k : Int) f.book := by
            have h := HZ.out
            rw [List.take_of_length_le (by omega)] at h
            exact h
          have HER2 : Hid (er = if 0 ≤ n3 ∧ n3 < z then 0 else 6) := Lib.hid (by rw [hz]; exact her.out)
          clear hz
          by_cases h0 : 0 ≤ n3
          · have h0B : decide (0 ≤ n3) = true := decide_eq_true h0
            by_cases hN : n3 < z
            · have hNB : decide (n3 < z) = true := decide_eq_true hN
              have hef : ((er : Int) == 0) = true := by rw [HER2.out, if_pos ⟨h0, hN⟩]; rfl
              go_wp2_with fail
              go_ret
              exact ⟨rfl, hx1r⟩
            · have hNB : decide (n3 < z) = false := decide_eq_false hN
              have hef : ((er : Int) == 0) = false := by rw [HER2.out, if_neg (fun h => hN h.2)]; rfl
              go_wp2_with fail
              go_ret
              exact ⟨rfl, hx1r⟩
          · have h0B : decide (0 ≤ n3) = false := decide_eq_false h0
            have hef : ((er : Int) == 0) = false := by rw [HER2.out, if_neg (fun h => h0 h.1)]; rfl
            go_wp2_with fail
            go_ret
            exact ⟨rfl, hx1r⟩
  · have hne : ((a : Int) != 0) = true := by rw [bne_iff_ne]; omega
    go_wp2_with fail
    go_ret
    exact ⟨rfl, hx13⟩
end Go.Proofs.Ytnpfmboolbhpaaa
