/-
  THE WALK of fleet.Check. Conditions: what is read is what is shown, and a head.
-/
import Derived.Test.YtfdibjgmbdkbcaaZGf
import Derived.Test.YtfdibjgmbdkbcaaZFleetK
namespace Go.Proofs.Ytfdibjgmbdkbcaa
open Go.RowKit Go.Lib

set_option maxRecDepth 100000 in
set_option maxHeartbeats 4000000 in
theorem check_any (w : World) (F F' : Nat → Prop) (cs : List Value) (s : Shw) (hsz : Int) (hroot : Bs) (hv : Value) (hrd : Rp.rd w F cs s) (hh : Bytes w F' hv hroot) :
    Calls Try.prog 72 #[.agg cs.toArray, .agg #[.int .i64 hsz, hv]] w fun e w' => e = .returned (.bool (Fl.checkC s hsz hroot)) ∧ Below w.heap.size w w' := by
  obtain ⟨c1, c1', rfl, ⟨ev, h1', h1⟩, c2, c2', rfl, h2, c3, c3', rfl, h3, c4, c4', rfl, ⟨pv, h4', h4⟩, c5, c5', rfl, ⟨r1, r1', rfl, e1, r2, r2', rfl, e2, r3, r3', rfl, e3, r4, r5, rfl, e4, rv, e5', e5⟩, c6, c6', rfl, h6, c7, c8, rfl, ⟨bpv, h7', h7⟩, k1, k2, rfl, h8, hv2, h9', h9⟩ := hrd
  have e2' : c2 = [.int .i64 s.place] := h2
  have e3' : c3 = [.int .i64 s.shard] := h3
  have f1' : r1 = [.int .i64 s.rcd.sh] := e1
  have f2' : r2 = [.int .i64 s.rcd.fr] := e2
  have f3' : r3 = [.int .i64 s.rcd.to] := e3
  have f4' : r4 = [.int .i64 s.rcd.sz] := e4
  have e6' : c6 = [.int .i64 s.row] := h6
  have e8' : k1 = [.int .i64 s.hsz] := h8
  subst h1' e2' e3' h4' f1' f2' f3' f4' e5' e6' h7' e8' h9'
  have b1 := rdL_bytes.1 h1
  have b4 := rdL_blist.1 h4
  have b5 := rdL_bytes.1 e5
  have b7 := rdL_blist.1 h7
  have b9 := rdL_bytes.1 h9
  clear h1 h2 h3 h4 e1 e2 e3 e4 e5 h6 h7 h8 h9
  obtain ⟨AE, cE, rfl⟩ := b1.form
  obtain ⟨AP, cP, rfl, _, _, _⟩ := b4.shape
  obtain ⟨AR, cR, rfl⟩ := b5.form
  obtain ⟨AB, cB, rfl, _, _, _⟩ := b7.shape
  obtain ⟨AH, cH, rfl⟩ := b9.form
  obtain ⟨AK, cK, rfl⟩ := hh.form
  have hx1 := ((Below.refl w.heap.size w).alloc (Nat.le_refl _) (.cells #[.slice AE s.entry.length cE, .int .i64 s.place, .int .i64 s.shard, .slice AP s.path.length cP, .int .i64 s.rcd.sh, .int .i64 s.rcd.fr, .int .i64 s.rcd.to, .int .i64 s.rcd.sz, .slice AR s.rcd.root.length cR, .int .i64 s.row, .slice AB s.bpath.length cB, .int .i64 s.hsz, .slice AH s.hroot.length cH] 89)).alloc (by simp) (.cells #[.int .i64 hsz, .slice AK hroot.length cK] 39)
  have hb2 : Blk ((w.alloc (.cells #[.slice AE s.entry.length cE, .int .i64 s.place, .int .i64 s.shard, .slice AP s.path.length cP, .int .i64 s.rcd.sh, .int .i64 s.rcd.fr, .int .i64 s.rcd.to, .int .i64 s.rcd.sz, .slice AR s.rcd.root.length cR, .int .i64 s.row, .slice AB s.bpath.length cB, .int .i64 s.hsz, .slice AH s.hroot.length cH] 89)).alloc (.cells #[.int .i64 hsz, .slice AK hroot.length cK] 39)) w.heap.size 89 #[.slice AE s.entry.length cE, .int .i64 s.place, .int .i64 s.shard, .slice AP s.path.length cP, .int .i64 s.rcd.sh, .int .i64 s.rcd.fr, .int .i64 s.rcd.to, .int .i64 s.rcd.sz, .slice AR s.rcd.root.length cR, .int .i64 s.row, .slice AB s.bpath.length cB, .int .i64 s.hsz, .slice AH s.hroot.length cH] := Blk.alloc (heap_alloc_new w _) _
  have hb3 : Blk ((w.alloc (.cells #[.slice AE s.entry.length cE, .int .i64 s.place, .int .i64 s.shard, .slice AP s.path.length cP, .int .i64 s.rcd.sh, .int .i64 s.rcd.fr, .int .i64 s.rcd.to, .int .i64 s.rcd.sz, .slice AR s.rcd.root.length cR, .int .i64 s.row, .slice AB s.bpath.length cB, .int .i64 s.hsz, .slice AH s.hroot.length cH] 89)).alloc (.cells #[.int .i64 hsz, .slice AK hroot.length cK] 39)) (w.heap.size + 1) 39 #[.int .i64 hsz, .slice AK hroot.length cK] := by
    have := heap_alloc_new (w.alloc (.cells #[.slice AE s.entry.length cE, .int .i64 s.place, .int .i64 s.shard, .slice AP s.path.length cP, .int .i64 s.rcd.sh, .int .i64 s.rcd.fr, .int .i64 s.rcd.to, .int .i64 s.rcd.sz, .slice AR s.rcd.root.length cR, .int .i64 s.row, .slice AB s.bpath.length cB, .int .i64 s.hsz, .slice AH s.hroot.length cH] 89)) (.cells #[.int .i64 hsz, .slice AK hroot.length cK] 39)
    rw [World.size_alloc] at this
    exact this
  obtain ⟨R, HR⟩ : ∃ R, Hid (R = Fl.checkC s hsz hroot) := ⟨_, Lib.hid rfl⟩
  rw [← HR.out]
  have hb5 := (rdL_bytes.2 b5).below hx1
  have hb9 := (rdL_bytes.2 b9).below hx1
  have hbh := (rdL_bytes.2 hh).below hx1
  have hb1' := (rdL_bytes.2 b1).below hx1
  have hb4' := (rdL_blist.2 b4).below hx1
  have hb7' := (rdL_blist.2 b7).below hx1
  by_cases hw : Bk.wrongR s.rcd = 0
  · have HB := Lib.hid (bytesR_ok ((w.alloc (.cells #[.slice AE s.entry.length cE, .int .i64 s.place, .int .i64 s.shard, .slice AP s.path.length cP, .int .i64 s.rcd.sh, .int .i64 s.rcd.fr, .int .i64 s.rcd.to, .int .i64 s.rcd.sz, .slice AR s.rcd.root.length cR, .int .i64 s.row, .slice AB s.bpath.length cB, .int .i64 s.hsz, .slice AH s.hroot.length cH] 89)).alloc (.cells #[.int .i64 hsz, .slice AK hroot.length cK] 39)) F s.rcd.sh s.rcd.fr s.rcd.to s.rcd.sz AR cR s.rcd.root (rdL_bytes.1 hb5) hw)
    have HW := Lib.hid hw
    clear hw
    go_enter Try.func72, Try.ntmps72
    go_upto_region 1 with (fail)
    generalize ((w.alloc (.cells #[.slice AE s.entry.length cE, .int .i64 s.place, .int .i64 s.shard, .slice AP s.path.length cP, .int .i64 s.rcd.sh, .int .i64 s.rcd.fr, .int .i64 s.rcd.to, .int .i64 s.rcd.sz, .slice AR s.rcd.root.length cR, .int .i64 s.row, .slice AB s.bpath.length cB, .int .i64 s.hsz, .slice AH s.hroot.length cH] 89)).alloc (.cells #[.int .i64 hsz, .slice AK hroot.length cK] 39)) = w1 at *
    have c0 : w1.cell? ⟨w.heap.size, 0, none⟩ = some (.slice AE s.entry.length cE) := hb2.cell 0
    have c1 : w1.cell? ⟨w.heap.size, 1, none⟩ = some (.int .i64 s.place) := hb2.cell 1
    have c2 : w1.cell? ⟨w.heap.size, 2, none⟩ = some (.int .i64 s.shard) := hb2.cell 2
    have c3 : w1.cell? ⟨w.heap.size, 3, none⟩ = some (.slice AP s.path.length cP) := hb2.cell 3
    have c4 : w1.cell? ⟨w.heap.size, 4, none⟩ = some (.int .i64 s.rcd.sh) := hb2.cell 4
    have c5 : w1.cell? ⟨w.heap.size, 5, none⟩ = some (.int .i64 s.rcd.fr) := hb2.cell 5
    have c6 : w1.cell? ⟨w.heap.size, 6, none⟩ = some (.int .i64 s.rcd.to) := hb2.cell 6
    have c7 : w1.cell? ⟨w.heap.size, 7, none⟩ = some (.int .i64 s.rcd.sz) := hb2.cell 7
    have c8 : w1.cell? ⟨w.heap.size, 8, none⟩ = some (.slice AR s.rcd.root.length cR) := hb2.cell 8
    have c9 : w1.cell? ⟨w.heap.size, 9, none⟩ = some (.int .i64 s.row) := hb2.cell 9
    have c10 : w1.cell? ⟨w.heap.size, 10, none⟩ = some (.slice AB s.bpath.length cB) := hb2.cell 10
    have c11 : w1.cell? ⟨w.heap.size, 11, none⟩ = some (.int .i64 s.hsz) := hb2.cell 11
    have c12 : w1.cell? ⟨w.heap.size, 12, none⟩ = some (.slice AH s.hroot.length cH) := hb2.cell 12
    have d0 : w1.cell? ⟨w.heap.size + 1, 0, none⟩ = some (.int .i64 hsz) := hb3.cell 0
    have d1 : w1.cell? ⟨w.heap.size + 1, 1, none⟩ = some (.slice AK hroot.length cK) := hb3.cell 1
    go_wp2_with fail
    with_reducible refine HB.out.mono ?_
    rintro e w2 ⟨v2, rfl, ho2, hx2⟩
    clear HB
    obtain ⟨A2, k2, hv2, _, _⟩ := Own.shape ho2
    obtain ⟨n2, hn2⟩ : ∃ n, (Bk.rowR ⟨s.rcd.sh, s.rcd.fr, s.rcd.to, s.rcd.sz, s.rcd.root⟩).length = n := ⟨_, rfl⟩
    rw [hn2] at hv2
    subst hv2
    clear hn2 c0 c1 c2 c3 c4 c5 c6 c7 c8 c9 c10 c11 c12 d0 d1
    have hb22 := hb2.below hx2 hb2.lt
    have hb32 := hb3.below hx2 hb3.lt
    have hx12 := hx1.trans (hx2.mono hx1.size)
    have c0 : w2.cell? ⟨w.heap.size, 0, none⟩ = some (.slice AE s.entry.length cE) := hb22.cell 0
    have c1 : w2.cell? ⟨w.heap.size, 1, none⟩ = some (.int .i64 s.place) := hb22.cell 1
    have c2 : w2.cell? ⟨w.heap.size, 2, none⟩ = some (.int .i64 s.shard) := hb22.cell 2
    have c3 : w2.cell? ⟨w.heap.size, 3, none⟩ = some (.slice AP s.path.length cP) := hb22.cell 3
    have c4 : w2.cell? ⟨w.heap.size, 4, none⟩ = some (.int .i64 s.rcd.sh) := hb22.cell 4
    have c5 : w2.cell? ⟨w.heap.size, 5, none⟩ = some (.int .i64 s.rcd.fr) := hb22.cell 5
    have c6 : w2.cell? ⟨w.heap.size, 6, none⟩ = some (.int .i64 s.rcd.to) := hb22.cell 6
    have c7 : w2.cell? ⟨w.heap.size, 7, none⟩ = some (.int .i64 s.rcd.sz) := hb22.cell 7
    have c8 : w2.cell? ⟨w.heap.size, 8, none⟩ = some (.slice AR s.rcd.root.length cR) := hb22.cell 8
    have c9 : w2.cell? ⟨w.heap.size, 9, none⟩ = some (.int .i64 s.row) := hb22.cell 9
    have c10 : w2.cell? ⟨w.heap.size, 10, none⟩ = some (.slice AB s.bpath.length cB) := hb22.cell 10
    have c11 : w2.cell? ⟨w.heap.size, 11, none⟩ = some (.int .i64 s.hsz) := hb22.cell 11
    have c12 : w2.cell? ⟨w.heap.size, 12, none⟩ = some (.slice AH s.hroot.length cH) := hb22.cell 12
    have d0 : w2.cell? ⟨w.heap.size + 1, 0, none⟩ = some (.int .i64 hsz) := hb32.cell 0
    have d1 : w2.cell? ⟨w.heap.size + 1, 1, none⟩ = some (.slice AK hroot.length cK) := hb32.cell 1
    by_cases hq1 : s.rcd.sh = s.shard
    · have q1 : (s.rcd.sh != s.shard) = false := by rw [bne_eq_false_iff_eq]; exact hq1
      have HQ1 := Lib.hid hq1
      clear hq1
      by_cases hq2 : s.hsz = hsz
      · have q2 : (s.hsz != hsz) = false := by rw [bne_eq_false_iff_eq]; exact hq2
        have HQ2 := Lib.hid hq2
        clear hq2
        go_wp2_with fail
        with_reducible refine (equal_any w2 _ _ _ _ s.hroot hroot (rdL_bytes.1 (hb9.below hx2)) (rdL_bytes.1 (hbh.below hx2))).mono ?_
        rintro e w3 ⟨rfl, hw3⟩
        subst hw3
        by_cases hq3 : s.hroot = hroot
        · have q3 : (s.hroot == hroot) = true := by rw [beq_iff_eq]; exact hq3
          have HS : Hid (R = (standsS s.rcd.sz s.rcd.root s.entry s.place s.path && standsS hsz hroot (Bk.rowR s.rcd) s.row s.bpath)) := Lib.hid (by
            rw [HR.out]; unfold Fl.checkC; rw [HW.out, HQ1.out, HQ2.out, hq3]; simp)
          rw [q3]
          clear hq3 q3
          have HT1 := Lib.hid (stands_any w3 _ _ _ (.slice AR s.rcd.root.length cR) (.slice AE s.entry.length cE) (.slice AP s.path.length cP) s.rcd.sz s.rcd.root s.entry s.place s.path (rdL_bytes.1 (hb5.below hx2)) (rdL_bytes.1 (hb1'.below hx2)) (rdL_blist.1 (hb4'.below hx2)))
          generalize standsS s.rcd.sz s.rcd.root s.entry s.place s.path = t1 at *
          go_wp2_with fail
          with_reducible refine HT1.out.mono ?_
          rintro e w4 ⟨rfl, hx4⟩
          have hx14 := hx12.trans (hx4.mono hx12.size)
          have hx24 := hx2.trans (hx4.mono hx2.size)
          have hb24 := hb22.below hx4 hb22.lt
          have hb34 := hb32.below hx4 hb32.lt
          clear c0 c1 c2 c3 c4 c5 c6 c7 c8 c9 c10 c11 c12 d0 d1
          have c0 : w4.cell? ⟨w.heap.size, 0, none⟩ = some (.slice AE s.entry.length cE) := hb24.cell 0
          have c1 : w4.cell? ⟨w.heap.size, 1, none⟩ = some (.int .i64 s.place) := hb24.cell 1
          have c2 : w4.cell? ⟨w.heap.size, 2, none⟩ = some (.int .i64 s.shard) := hb24.cell 2
          have c3 : w4.cell? ⟨w.heap.size, 3, none⟩ = some (.slice AP s.path.length cP) := hb24.cell 3
          have c4 : w4.cell? ⟨w.heap.size, 4, none⟩ = some (.int .i64 s.rcd.sh) := hb24.cell 4
          have c5 : w4.cell? ⟨w.heap.size, 5, none⟩ = some (.int .i64 s.rcd.fr) := hb24.cell 5
          have c6 : w4.cell? ⟨w.heap.size, 6, none⟩ = some (.int .i64 s.rcd.to) := hb24.cell 6
          have c7 : w4.cell? ⟨w.heap.size, 7, none⟩ = some (.int .i64 s.rcd.sz) := hb24.cell 7
          have c8 : w4.cell? ⟨w.heap.size, 8, none⟩ = some (.slice AR s.rcd.root.length cR) := hb24.cell 8
          have c9 : w4.cell? ⟨w.heap.size, 9, none⟩ = some (.int .i64 s.row) := hb24.cell 9
          have c10 : w4.cell? ⟨w.heap.size, 10, none⟩ = some (.slice AB s.bpath.length cB) := hb24.cell 10
          have c11 : w4.cell? ⟨w.heap.size, 11, none⟩ = some (.int .i64 s.hsz) := hb24.cell 11
          have c12 : w4.cell? ⟨w.heap.size, 12, none⟩ = some (.slice AH s.hroot.length cH) := hb24.cell 12
          have d0 : w4.cell? ⟨w.heap.size + 1, 0, none⟩ = some (.int .i64 hsz) := hb34.cell 0
          have d1 : w4.cell? ⟨w.heap.size + 1, 1, none⟩ = some (.slice AK hroot.length cK) := hb34.cell 1
          cases t1 with
          | false =>
            have HF : Hid (R = false) := Lib.hid (by rw [HS.out]; simp)
            go_wp2_with fail
            go_ret
            exact ⟨by rw [HF.out]; rfl, hx14⟩
          | true =>
            have HF : Hid (R = standsS hsz hroot (Bk.rowR s.rcd) s.row s.bpath) := Lib.hid (by rw [HS.out]; simp)
            have HT2 := Lib.hid (stands_any w4 _ _ _ (.slice AK hroot.length cK) (.slice A2 n2 k2) (.slice AB s.bpath.length cB) hsz hroot (Bk.rowR s.rcd) s.row s.bpath (rdL_bytes.1 (hbh.below hx24)) (OwnB.bytes (OwnB.below ho2 hx4)) (rdL_blist.1 (hb7'.below hx24)))
            rw [← HF.out] at HT2
            go_wp2_with fail
            with_reducible refine HT2.out.mono ?_
            rintro e w5 ⟨rfl, hx5⟩
            go_wp2_with fail
            go_ret
            exact ⟨rfl, hx14.trans (hx5.mono hx14.size)⟩
        · have q3 : (s.hroot == hroot) = false := by rw [beq_eq_false_iff_ne]; exact hq3
          have HS : Hid (R = false) := Lib.hid (by rw [HR.out]; unfold Fl.checkC; simp [hq3])
          rw [q3]
          clear hq3 q3
          go_wp2_with fail
          go_ret
          exact ⟨by rw [HS.out]; rfl, hx12⟩
      · have q2 : (s.hsz != hsz) = true := by rw [bne_iff_ne]; exact hq2
        have HS : Hid (R = false) := Lib.hid (by rw [HR.out]; unfold Fl.checkC; simp [hq2])
        clear hq2
        go_wp2_with fail
        go_ret
        exact ⟨by rw [HS.out]; rfl, hx12⟩
    · have q1 : (s.rcd.sh != s.shard) = true := by rw [bne_iff_ne]; exact hq1
      have HS : Hid (R = false) := Lib.hid (by rw [HR.out]; unfold Fl.checkC; simp [hq1])
      clear hq1
      go_wp2_with fail
      go_ret
      exact ⟨by rw [HS.out]; rfl, hx12⟩
  · have HS : Hid (R = false) := Lib.hid (by rw [HR.out]; unfold Fl.checkC; simp [hw])
    obtain ⟨x, HX⟩ : ∃ x, Hid (x = Bk.wrongR ⟨s.rcd.sh, s.rcd.fr, s.rcd.to, s.rcd.sz, s.rcd.root⟩) := ⟨_, Lib.hid rfl⟩
    have HB := bytesR_bad ((w.alloc (.cells #[.slice AE s.entry.length cE, .int .i64 s.place, .int .i64 s.shard, .slice AP s.path.length cP, .int .i64 s.rcd.sh, .int .i64 s.rcd.fr, .int .i64 s.rcd.to, .int .i64 s.rcd.sz, .slice AR s.rcd.root.length cR, .int .i64 s.row, .slice AB s.bpath.length cB, .int .i64 s.hsz, .slice AH s.hroot.length cH] 89)).alloc (.cells #[.int .i64 hsz, .slice AK hroot.length cK] 39)) s.rcd.sh s.rcd.fr s.rcd.to s.rcd.sz AR cR s.rcd.root hw
    rw [← HX.out] at HB
    have hxb : ((x : Int) != 0) = true := by rw [bne_iff_ne]; have h := HX.out; intro e; apply hw; show Bk.wrongR ⟨s.rcd.sh, s.rcd.fr, s.rcd.to, s.rcd.sz, s.rcd.root⟩ = 0; rw [← h]; omega
    have HBB := Lib.hid HB
    clear hw HB
    go_enter Try.func72, Try.ntmps72
    go_upto_region 1 with (fail)
    generalize ((w.alloc (.cells #[.slice AE s.entry.length cE, .int .i64 s.place, .int .i64 s.shard, .slice AP s.path.length cP, .int .i64 s.rcd.sh, .int .i64 s.rcd.fr, .int .i64 s.rcd.to, .int .i64 s.rcd.sz, .slice AR s.rcd.root.length cR, .int .i64 s.row, .slice AB s.bpath.length cB, .int .i64 s.hsz, .slice AH s.hroot.length cH] 89)).alloc (.cells #[.int .i64 hsz, .slice AK hroot.length cK] 39)) = w1 at *
    have c0 : w1.cell? ⟨w.heap.size, 0, none⟩ = some (.slice AE s.entry.length cE) := hb2.cell 0
    have c1 : w1.cell? ⟨w.heap.size, 1, none⟩ = some (.int .i64 s.place) := hb2.cell 1
    have c2 : w1.cell? ⟨w.heap.size, 2, none⟩ = some (.int .i64 s.shard) := hb2.cell 2
    have c3 : w1.cell? ⟨w.heap.size, 3, none⟩ = some (.slice AP s.path.length cP) := hb2.cell 3
    have c4 : w1.cell? ⟨w.heap.size, 4, none⟩ = some (.int .i64 s.rcd.sh) := hb2.cell 4
    have c5 : w1.cell? ⟨w.heap.size, 5, none⟩ = some (.int .i64 s.rcd.fr) := hb2.cell 5
    have c6 : w1.cell? ⟨w.heap.size, 6, none⟩ = some (.int .i64 s.rcd.to) := hb2.cell 6
    have c7 : w1.cell? ⟨w.heap.size, 7, none⟩ = some (.int .i64 s.rcd.sz) := hb2.cell 7
    have c8 : w1.cell? ⟨w.heap.size, 8, none⟩ = some (.slice AR s.rcd.root.length cR) := hb2.cell 8
    have c9 : w1.cell? ⟨w.heap.size, 9, none⟩ = some (.int .i64 s.row) := hb2.cell 9
    have c10 : w1.cell? ⟨w.heap.size, 10, none⟩ = some (.slice AB s.bpath.length cB) := hb2.cell 10
    have c11 : w1.cell? ⟨w.heap.size, 11, none⟩ = some (.int .i64 s.hsz) := hb2.cell 11
    have c12 : w1.cell? ⟨w.heap.size, 12, none⟩ = some (.slice AH s.hroot.length cH) := hb2.cell 12
    have d0 : w1.cell? ⟨w.heap.size + 1, 0, none⟩ = some (.int .i64 hsz) := hb3.cell 0
    have d1 : w1.cell? ⟨w.heap.size + 1, 1, none⟩ = some (.slice AK hroot.length cK) := hb3.cell 1
    go_wp2_with fail
    with_reducible refine HBB.out.mono ?_
    rintro e w2 ⟨rfl, hx2⟩
    have hx12 := hx1.trans (hx2.mono hx1.size)
    go_wp2_with fail
    go_ret
    exact ⟨by rw [HS.out]; rfl, hx12⟩
end Go.Proofs.Ytfdibjgmbdkbcaa
