/-
  THE WALK of FleetFalse. Conditions: what comes in is read.
-/
import Derived.Test.YtnpfmboolbhpaaaZRepr
import Derived.Test.YtnpfmboolbhpaaaZFleetCk
import Derived.Test.YtnpfmboolbhpaaaZFleetL7
import Derived.Test.YtnpfmboolbhpaaaZClashE
import Derived.Test.YtnpfmboolbhpaaaZFleetFP
namespace Go.Proofs.Ytnpfmboolbhpaaa
open Go.RowKit Go.Lib

set_option maxRecDepth 100000 in
set_option maxHeartbeats 1000000 in
theorem in_any (w : World) (F : Nat → Prop) (v : Value) (l : Bs) (hl : Bytes w F v l) (h : l.length ≤ 1000) :
    Calls Try.prog 34 #[v] w fun e w' => ∃ A c, e = .returned (.slice A (l.length + 1) c) ∧ Below w.heap.size w w' := by
  obtain ⟨i0, hi, hz0, hz1, hz2⟩ := info_parts info_u8
  obtain ⟨A, c, hv, hac, hcm⟩ := hl.form'
  subst hv
  unfold maxLen at hcm
  have hown0 := Own.new w w.heap.size 5 [.int .u8 0] 1 rfl (by decide) (Nat.le_refl _)
  have hx0 := (Below.refl w.heap.size w).alloc (Nat.le_refl _) (.cells #[.int .u8 0] 5)
  have hl0 := hl.alloc (.cells #[.int .u8 0] 5)
  go_enter Try.func34, Try.ntmps34
  go_wp2_with (at_builtin
               refine wpList_append_Own _ (by rfl) (.tmp 3) (.tmp 4) 24 (by rfl) w.heap.size 5 i0 _ 1 1 Try.underlying24 hi hz0 hz1 hz2 (by rfl) (by omega) (.slice (some ⟨w.heap.size, 0, none⟩) 1 1) 1 [.int .u8 0] (by rfl) hown0 F (.slice A l.length c) l.length (l.map bv) (by rfl) hl0 (map_oneCell l) (by simp only [maxLen]; omega) (by omega) hx0.size ?_
               intro v2 w2 hown2 hgr2 hat2
               have hx2 : Below w.heap.size w w2 := hx0.grown hgr2 hx0.size (fun k hk => (hown0.lt k hk).1)
               obtain ⟨A2, c2, hv2, _, _⟩ := hown2.shape
               rw [Nat.add_comm] at hv2
               subst hv2)
  go_ret
  exact ⟨_, _, rfl, hx2⟩

set_option maxRecDepth 100000 in
set_option maxHeartbeats 8000000 in
theorem fleetFalse_walk (w : World) (v0 : Value) (l0 : List (Int × Int)) (h0 : RdL w (fun _ => True) v0 l0) (v1 : Value) (l1 : List Dob) (h1 : RdL w (fun _ => True) v1 l1) (cs2 : List Value) (l2 : Shw) (h2 : Rp.rd w (fun _ => True) cs2 l2) :
    Calls Try.prog 13 #[v0, v1, .agg cs2.toArray] w fun e w' => e = .returned (.bool true) ∧ Below w.heap.size w w' := by
  obtain ⟨A0, c0, hv0, hn0, hm0⟩ := h0.form
  obtain ⟨A1, c1, hv1, hn1, hm1⟩ := h1.form
  subst hv0 hv1
  unfold maxLen at hm0 hm1
  obtain ⟨AE, cE, AP, cP, AR, cR, AB, cB, AH, cH, hcs2, hE, hP, hR, hB, hH⟩ := shw_open h2
  subst hcs2
  have hx0 := (Below.refl w.heap.size w).alloc (Nat.le_refl _) (.cells #[.slice AE l2.entry.length cE, .int .i64 l2.place, .int .i64 l2.shard, .slice AP l2.path.length cP, .int .i64 l2.rcd.sh, .int .i64 l2.rcd.fr, .int .i64 l2.rcd.to, .int .i64 l2.rcd.sz, .slice AR l2.rcd.root.length cR, .int .i64 l2.row, .slice AB l2.bpath.length cB, .int .i64 l2.hsz, .slice AH l2.hroot.length cH] 31)
  have hbS : Blk (w.alloc (.cells #[.slice AE l2.entry.length cE, .int .i64 l2.place, .int .i64 l2.shard, .slice AP l2.path.length cP, .int .i64 l2.rcd.sh, .int .i64 l2.rcd.fr, .int .i64 l2.rcd.to, .int .i64 l2.rcd.sz, .slice AR l2.rcd.root.length cR, .int .i64 l2.row, .slice AB l2.bpath.length cB, .int .i64 l2.hsz, .slice AH l2.hroot.length cH] 31)) w.heap.size 31 #[.slice AE l2.entry.length cE, .int .i64 l2.place, .int .i64 l2.shard, .slice AP l2.path.length cP, .int .i64 l2.rcd.sh, .int .i64 l2.rcd.fr, .int .i64 l2.rcd.to, .int .i64 l2.rcd.sz, .slice AR l2.rcd.root.length cR, .int .i64 l2.row, .slice AB l2.bpath.length cB, .int .i64 l2.hsz, .slice AH l2.hroot.length cH] := heap_alloc_new w _
  replace h0 := h0.below hx0
  replace h1 := h1.below hx0
  replace h2 := Rp.below h2 hx0
  replace hE := hE.below hx0
  replace hP := hP.below hx0
  replace hR := hR.below hx0
  replace hB := hB.below hx0
  go_enter Try.func13, Try.ntmps13
  go_upto_region 1 with (fail)
  clear hH
  generalize w.alloc (.cells #[.slice AE l2.entry.length cE, .int .i64 l2.place, .int .i64 l2.shard, .slice AP l2.path.length cP, .int .i64 l2.rcd.sh, .int .i64 l2.rcd.fr, .int .i64 l2.rcd.to, .int .i64 l2.rcd.sz, .slice AR l2.rcd.root.length cR, .int .i64 l2.row, .slice AB l2.bpath.length cB, .int .i64 l2.hsz, .slice AH l2.hroot.length cH] 31) = w0 at *
  go_wp2_with fail
  with_reducible refine (alive7 w0).mono ?_
  rintro e w1 ⟨rfl, hy1⟩
  have hx1 := hx0.trans (hy1.mono hx0.size)
  obtain ⟨fx, lax, ax, bx, hpl⟩ : ∃ f la a b, Fl.play l0 l1 = (f, la, (a, b)) := ⟨_, _, _, _, rfl⟩
  have HP := Lib.hid (play_any w1 _ _ _ _ l0 l1 (h0.below hy1) (h1.below hy1))
  rw [hpl] at HP
  have HPLx := Lib.hid hpl
  clear hpl
  go_wp2_with fail
  refine HP.out.mono ?_
  rintro e w2 ⟨vs, vb, va, rfl, qsx, qbx, qax, hxpx⟩
  simp only at qsx qbx qax ⊢
  replace qsx := qsx.weak (F' := fun b => b < w2.heap.size) fun b hb _ => hb
  replace qbx := qbx.weak (F' := fun b => b < w2.heap.size) fun b hb _ => hb
  replace qax := qax.weak (F' := fun b => b < w2.heap.size) fun b hb _ => hb
  obtain ⟨Asx, csx, hvs, hlsx, hcsx⟩ := qsx.form
  obtain ⟨Abx, cbx, hvb, hlbx, hcbx⟩ := qbx.form
  obtain ⟨Aax, cax, hva, hlax, hcax⟩ := qax.form
  unfold maxLen at hcsx hcbx hcax
  subst hvs hvb hva
  clear HP
  go_upto_region 4 with (fail)
  have hxqx := ((Below.refl w2.heap.size w2).alloc (Nat.le_refl _) (.cells #[.slice Asx fx.sh.length csx, .slice Abx fx.book.length cbx] 35)).alloc (by simp) (.cells #[.int .i64 (ax : Int), .int .i64 (bx : Int)] 39)
  have hbFx : Blk ((w2.alloc (.cells #[.slice Asx fx.sh.length csx, .slice Abx fx.book.length cbx] 35)).alloc (.cells #[.int .i64 (ax : Int), .int .i64 (bx : Int)] 39)) w2.heap.size 35 #[.slice Asx fx.sh.length csx, .slice Abx fx.book.length cbx] := Blk.alloc (heap_alloc_new w2 _) _
  have hbWx : Blk ((w2.alloc (.cells #[.slice Asx fx.sh.length csx, .slice Abx fx.book.length cbx] 35)).alloc (.cells #[.int .i64 (ax : Int), .int .i64 (bx : Int)] 39)) (w2.heap.size + 1) 39 #[.int .i64 (ax : Int), .int .i64 (bx : Int)] := by
    have := heap_alloc_new (w2.alloc (.cells #[.slice Asx fx.sh.length csx, .slice Abx fx.book.length cbx] 35)) (.cells #[.int .i64 (ax : Int), .int .i64 (bx : Int)] 39)
    rw [World.size_alloc] at this
    exact this
  generalize ((w2.alloc (.cells #[.slice Asx fx.sh.length csx, .slice Abx fx.book.length cbx] 35)).alloc (.cells #[.int .i64 (ax : Int), .int .i64 (bx : Int)] 39)) = w3 at *
  have hxsx := hxpx.trans (hxqx.mono hxpx.size)
  have hxxB := hx1.trans (hxsx.mono hx1.size)
  replace qsx := qsx.below hxqx
  replace qbx := qbx.below hxqx
  replace qax := qax.below hxqx
  have hgwx : w1.heap.size ≤ w2.heap.size := hxpx.size
  clear hxpx hxqx
  generalize w2.heap.size = gx at *
  have e1 : w3.cell? ⟨gx + 1, 0, none⟩ = some (.int .i64 (ax : Int)) := hbWx.cell 0
  by_cases hax : ax = 0
  · have hneX : ((ax : Int) != 0) = false := by rw [bne_eq_false_iff_eq]; omega
    have hpl0 : Fl.play l0 l1 = (fx, lax, (0, bx)) := by rw [HPLx.out, hax]
    obtain ⟨hI, -, -, -, -⟩ := Fl.play_ok hpl0
    have hy3 := hy1.trans (hxsx.mono hy1.size)
    have hgx : gx + 1 < w3.heap.size := hbWx.lt
    have hlen8 := hI.len
    have hbook8 := hI.book_len
    clear hpl0 hax hbWx
    have bz1 : w3.cell? ⟨gx, 1, none⟩ = some (.slice Abx fx.book.length cbx) := hbFx.cell 1
    have hHead := Lib.hid (Head_fine w3 _ _ fx.book qbx hI.fineB)
    have hrt : Tr.root ((Bk.rows fx.book).map Tr.leafH) = Fl.bookRoot fx.book := rfl
    rw [hrt] at hHead
    clear hrt
    obtain ⟨br, HBR⟩ : ∃ br, Hid (br = Fl.bookRoot fx.book) := ⟨_, Lib.hid rfl⟩
    rw [← HBR.out] at hHead
    go_wp2_with fail
    with_reducible refine hHead.out.mono ?_
    rintro e w11 ⟨vh, rfl, hoh, hx11⟩
    obtain ⟨Ak, ck, hvh, _, _⟩ := Own.shape hoh
    obtain ⟨nk, hnk⟩ : ∃ n, br.length = n := ⟨_, rfl⟩
    rw [hnk] at hvh
    subst hvh
    clear hnk
    go_upto_region 7 with (fail)
    have hx1112 := ((Below.refl w11.heap.size w11).alloc (Nat.le_refl _) (.cells #[.int .i64 (fx.book.length : Int), .slice Ak nk ck] 27)).alloc (by simp) (.cells #[.int .i64 0, .int .i64 0] 39)
    have hbH : Blk ((w11.alloc (.cells #[.int .i64 (fx.book.length : Int), .slice Ak nk ck] 27)).alloc (.cells #[.int .i64 0, .int .i64 0] 39)) w11.heap.size 27 #[.int .i64 (fx.book.length : Int), .slice Ak nk ck] := Blk.alloc (heap_alloc_new w11 _) _
    have hbE : Blk ((w11.alloc (.cells #[.int .i64 (fx.book.length : Int), .slice Ak nk ck] 27)).alloc (.cells #[.int .i64 0, .int .i64 0] 39)) (w11.heap.size + 1) 39 #[.int .i64 0, .int .i64 0] := by
      have := heap_alloc_new (w11.alloc (.cells #[.int .i64 (fx.book.length : Int), .slice Ak nk ck] 27)) (.cells #[.int .i64 0, .int .i64 0] 39)
      rw [World.size_alloc] at this
      exact this
    generalize ((w11.alloc (.cells #[.int .i64 (fx.book.length : Int), .slice Ak nk ck] 27)).alloc (.cells #[.int .i64 0, .int .i64 0] 39)) = w12 at *
    have hx312 := hx11.trans (hx1112.mono hx11.size)
    have hy12 := hy3.trans (hx312.mono hy3.size)
    have hx012 := hx0.trans (hy12.mono hx0.size)
    have hoh12 := OwnB.bytes (OwnB.below hoh hx1112)
    have hbF12 := hbFx.below hx312 hbFx.lt
    have hbS12 := hbS.below hy12 hbS.lt
    have qs12 := qsx.below hx312
    have qb12 := qbx.below hx312
    have z0 : w12.cell? ⟨w11.heap.size + 1, 0, none⟩ = some (.int .i64 0) := hbE.cell 0
    generalize w11.heap.size = gh at *
    have m0 : w12.cell? ⟨gh, 0, none⟩ = some (.int .i64 (fx.book.length : Int)) := hbH.cell 0
    have m1 : w12.cell? ⟨gh, 1, none⟩ = some (.slice Ak nk ck) := hbH.cell 1
    have c_0 : w12.cell? ⟨w.heap.size, 0, none⟩ = some (.slice AE l2.entry.length cE) := hbS12.cell 0
    have c_1 : w12.cell? ⟨w.heap.size, 1, none⟩ = some (.int .i64 l2.place) := hbS12.cell 1
    have c_2 : w12.cell? ⟨w.heap.size, 2, none⟩ = some (.int .i64 l2.shard) := hbS12.cell 2
    have c_3 : w12.cell? ⟨w.heap.size, 3, none⟩ = some (.slice AP l2.path.length cP) := hbS12.cell 3
    have c_4 : w12.cell? ⟨w.heap.size, 4, none⟩ = some (.int .i64 l2.rcd.sh) := hbS12.cell 4
    have c_5 : w12.cell? ⟨w.heap.size, 5, none⟩ = some (.int .i64 l2.rcd.fr) := hbS12.cell 5
    have c_6 : w12.cell? ⟨w.heap.size, 6, none⟩ = some (.int .i64 l2.rcd.to) := hbS12.cell 6
    have c_7 : w12.cell? ⟨w.heap.size, 7, none⟩ = some (.int .i64 l2.rcd.sz) := hbS12.cell 7
    have c_8 : w12.cell? ⟨w.heap.size, 8, none⟩ = some (.slice AR l2.rcd.root.length cR) := hbS12.cell 8
    have c_9 : w12.cell? ⟨w.heap.size, 9, none⟩ = some (.int .i64 l2.row) := hbS12.cell 9
    have c_10 : w12.cell? ⟨w.heap.size, 10, none⟩ = some (.slice AB l2.bpath.length cB) := hbS12.cell 10
    have c_11 : w12.cell? ⟨w.heap.size, 11, none⟩ = some (.int .i64 l2.hsz) := hbS12.cell 11
    have c_12 : w12.cell? ⟨w.heap.size, 12, none⟩ = some (.slice AH l2.hroot.length cH) := hbS12.cell 12
    have HCC := Lib.hid (check_any w12 _ _ [.slice AE l2.entry.length cE, .int .i64 l2.place, .int .i64 l2.shard, .slice AP l2.path.length cP, .int .i64 l2.rcd.sh, .int .i64 l2.rcd.fr, .int .i64 l2.rcd.to, .int .i64 l2.rcd.sz, .slice AR l2.rcd.root.length cR, .int .i64 l2.row, .slice AB l2.bpath.length cB, .int .i64 l2.hsz, .slice AH l2.hroot.length cH] l2 (fx.book.length : Int) br (.slice Ak nk ck) (Rp.below h2 hy12) hoh12)
    have hbE12 := Lib.hid hbE
    clear hbFx hbS qsx qbx hx11 hx1112 hbE e1 bz1 hbH
    go_wp2_with fail
    with_reducible refine HCC.out.mono ?_
    rintro e w13 ⟨rfl, hx13⟩
    have hy13 := hy12.trans (hx13.mono hy12.size)
    have hx013 := hx0.trans (hy13.mono hx0.size)
    have z03 : w13.cell? ⟨gh + 1, 0, none⟩ = some (.int .i64 0) := (hbE12.out.below hx13 hbE12.out.lt).cell 0
    clear m0 m1 z0 hoh12 c_0 c_1 c_2 c_3 c_4 c_5 c_6 c_7 c_8 c_9 c_10 c_11 c_12 HCC
    by_cases hc : Fl.checkC l2 (fx.book.length : Int) br = true
    · rw [hc]
      rw [HBR.out] at hc
      obtain ⟨hw, r, hr, hrow, hT1, hT2⟩ := Fl.false_row hI hc
      have HT1 := Lib.hid hT1
      have HT2 := Lib.hid hT2
      have HROW := Lib.hid hrow
      have HBK := Lib.hid hI.fineB.2
      have hbF13 := hbF12.below hx13 hbF12.lt
      have hbS13 := hbS12.below hx13 hbS12.lt
      have qs13 := qs12.below hx13
      have qb13 := qb12.below hx13
      have bz1 : w13.cell? ⟨gx, 1, none⟩ = some (.slice Abx fx.book.length cbx) := hbF13.cell 1
      obtain ⟨i0, hi, hz0, hz1, hz2⟩ := info_parts info_bytes
      clear hc hT1 hT2 hrow hbF12 hbS12 qs12 qb12 hbE12
      go_wp2_with fail
      clear z03 bz1
      go_loopg [12, 60] fx.book.length (fun m v i wr => ∃ j : Nat, j + m = fx.book.length ∧ i = .int .i64 (j : Int) ∧ OwnL wr w13.heap.size v (Bk.rows (fx.book.take j)) ∧ Below w13.heap.size w13 wr)
      case atStart => exact ⟨0, by omega, rfl, OwnL.nil_ _ _, Below.refl _ _⟩
      case round =>
        obtain ⟨j, hj, rfl, ⟨vs, hown, hin⟩, hx⟩ := hrel
        have hBr : w13.heap.size ≤ wr.heap.size := hx.size
        have hlj : (Bk.rows (fx.book.take j)).length = j := by unfold Bk.rows; rw [List.length_map, List.length_take]; omega
        rw [hlj] at hown
        obtain ⟨A1', c1', hv1, hac1, hcm1⟩ := hown.shape
        subst hv1
        by_cases hlt : j < fx.book.length
        · obtain ⟨b, off, c', A2, k2, hA, _, hb, p0, p1, p2, p3, p4, hub'⟩ := rec_at (qb13.below hx) hlt
          injection hA with hA hA1 hA'
          clear hA1
          subst hA hA'
          have hltB : (j : Int) < (fx.book.length : Int) := by omega
          have hj0 : (0 : Int) ≤ (j : Int) := by omega
          have hnt : Bk.rows (fx.book.take (j + 1)) = Bk.rows (fx.book.take j) ++ [Bk.rowR fx.book[j]] := by
            unfold Bk.rows
            rw [List.take_succ_eq_append_getElem hlt, List.map_append]; rfl
          have hwr := HBK.out _ (List.getElem_mem hlt)
          generalize fx.book[j] = r' at *
          obtain ⟨sh, fr, tt, sz, root⟩ := r'
          simp only at p0 p1 p2 p3 p4 hub'
          have HTT := Lib.hid hnt
          have HL := Lib.hid hlj
          clear hnt hlj
          have hl40 := Bk.length_rowR hwr
          go_upto_region 13 with (fail)
          have hxA := hx.alloc hBr (.cells #[.int .i64 sh, .int .i64 fr, .int .i64 tt, .int .i64 sz, .slice A2 root.length k2] 29)
          have hownA := hown.alloc (.cells #[.int .i64 sh, .int .i64 fr, .int .i64 tt, .int .i64 sz, .slice A2 root.length k2] 29)
          have hbR : Blk (wr.alloc (.cells #[.int .i64 sh, .int .i64 fr, .int .i64 tt, .int .i64 sz, .slice A2 root.length k2] 29)) wr.heap.size 29 #[.int .i64 sh, .int .i64 fr, .int .i64 tt, .int .i64 sz, .slice A2 root.length k2] := heap_alloc_new wr _
          have hinA : ∀ (i : Nat) (b : Bs), (Bk.rows (fx.book.take j))[i]? = some b → ∃ u : Value, vs[i]? = some u ∧ OwnB (wr.alloc (.cells #[.int .i64 sh, .int .i64 fr, .int .i64 tt, .int .i64 sz, .slice A2 root.length k2] 29)) w13.heap.size u b := fun i b hb => by
            obtain ⟨u, hu, ho⟩ := hin i b hb
            exact ⟨u, hu, Own.alloc ho _⟩
          have hubA := hub'.alloc (.cells #[.int .i64 sh, .int .i64 fr, .int .i64 tt, .int .i64 sz, .slice A2 root.length k2] 29)
          have hBA : w13.heap.size ≤ (wr.alloc (.cells #[.int .i64 sh, .int .i64 fr, .int .i64 tt, .int .i64 sz, .slice A2 root.length k2] 29)).heap.size := hxA.size
          generalize wr.alloc (.cells #[.int .i64 sh, .int .i64 fr, .int .i64 tt, .int .i64 sz, .slice A2 root.length k2] 29) = w14 at *
          generalize wr.heap.size = gr at *
          have r0 : w14.cell? ⟨gr, 0, none⟩ = some (.int .i64 sh) := hbR.cell 0
          have r1 : w14.cell? ⟨gr, 1, none⟩ = some (.int .i64 fr) := hbR.cell 1
          have r2 : w14.cell? ⟨gr, 2, none⟩ = some (.int .i64 tt) := hbR.cell 2
          have r3 : w14.cell? ⟨gr, 3, none⟩ = some (.int .i64 sz) := hbR.cell 3
          have r4 : w14.cell? ⟨gr, 4, none⟩ = some (.slice A2 root.length k2) := hbR.cell 4
          have HBY := Lib.hid (bytesR_ok w14 _ sh fr tt sz A2 k2 root hubA hwr)
          generalize Bk.rowR ⟨sh, fr, tt, sz, root⟩ = rb at *
          clear hbR hwr hin p0 p1 p2 p3 p4
          go_wp2_with fail
          with_reducible refine HBY.out.mono ?_
          rintro e w15 ⟨v3, rfl, hown3, hx3⟩
          obtain ⟨A3, c3, hv3, _, _⟩ := Own.shape hown3
          have H40 := Lib.hid hl40
          subst hv3
          clear hl40
          have hx4 := hxA.trans (hx3.mono hBA)
          have hown4 := hownA.below hx3
          have hownB := hown4.alloc (.cells #[.slice A3 rb.length c3] 24)
          have hxB := hx4.alloc hx4.size (.cells #[.slice A3 rb.length c3] 24)
          have hsrc := SlAt.new w15 24 [.slice A3 rb.length c3] 1 rfl (by decide)
          have hvo : OwnB (w15.alloc (.cells #[.slice A3 rb.length c3] 24)) w13.heap.size (.slice A3 rb.length c3) rb := (Own.mono hown3 hBA).alloc _
          have hin4 : ∀ (i : Nat) (b : Bs), (Bk.rows (fx.book.take j))[i]? = some b → ∃ u : Value, vs[i]? = some u ∧ OwnB (w15.alloc (.cells #[.slice A3 rb.length c3] 24)) w13.heap.size u b := fun i b hb => by
            obtain ⟨u, hu, ho⟩ := hinA i b hb
            exact ⟨u, hu, Own.alloc (Own.below ho hx3) _⟩
          have hB15 : w13.heap.size ≤ (w15.alloc (.cells #[.slice A3 rb.length c3] 24)).heap.size := hxB.size
          clear hinA r0 r1 r2 r3 r4
          go_wp2_with (at_builtin
                       refine wpList_append_Own _ (by rfl) (.tmp 71) (.tmp 73) 25 (by rfl) w13.heap.size 24 i0 _ 1 24 Try.underlying25 hi hz0 hz1 hz2 (by rfl) (by omega) (.slice A1' j c1') j vs (by rfl) hownB _ _ 1 [.slice A3 rb.length c3] (by rfl) hsrc (by simp [Value.oneCell']) (by simp only [maxLen]; omega) (by omega) hB15 ?_
                       intro v2 w5 hown5 hgr5 hat5
                       have hx5 : Below w13.heap.size w13 w5 := hxB.grown hgr5 hxB.size (fun k hk => (hownB.lt k hk).1)
                       have hL := OwnL.snoc hin4 (by rw [hown.1, HL.out]; omega) hvo (by rw [HL.out]; exact hownB) hgr5 (by rw [HL.out]; exact hown5))
          go_roundg (gk - 1)
          case measure => omega
          case rel => exact ⟨j + 1, by omega, by go_num, by rw [HTT.out]; exact hL, hx5⟩
        · have hltB : decide ((j : Int) < (fx.book.length : Int)) = false := decide_eq_false (by omega)
          have hLb := OwnL.blist ⟨vs, by rw [hlj]; exact hown, hin⟩
          rw [List.take_of_length_le (by omega)] at hLb
          have hyr := hy13.trans (hx.mono hy13.size)
          have hx0r := hx0.trans (hyr.mono hx0.size)
          have hbSr := hbS13.below hx hbS13.lt
          have hbFr := hbF13.below hx hbF13.lt
          have qsr := qs13.below hx
          have hj2 : fx.book.length ≤ j ∧ j ≤ fx.book.length := by omega

          have H4 : ∀ z, Below wr.heap.size wr z → Blk z w.heap.size 31 #[.slice AE l2.entry.length cE, .int .i64 l2.place, .int .i64 l2.shard, .slice AP l2.path.length cP, .int .i64 l2.rcd.sh, .int .i64 l2.rcd.fr, .int .i64 l2.rcd.to, .int .i64 l2.rcd.sz, .slice AR l2.rcd.root.length cR, .int .i64 l2.row, .slice AB l2.bpath.length cB, .int .i64 l2.hsz, .slice AH l2.hroot.length cH] := fun z hz => hbSr.below hz hbSr.lt
          have HF4 : ∀ z, Below wr.heap.size wr z → Blk z gx 35 #[.slice Asx fx.sh.length csx, .slice Abx fx.book.length cbx] := fun z hz => hbFr.below hz hbFr.lt
          have HLB : ∀ z, Below wr.heap.size wr z → BList z _ (.slice A1' j c1') (Bk.rows fx.book) := fun z hz => hLb.below hz
          have hRr := hR.below hyr
          have hjl : Hid (j = fx.book.length) := Lib.hid (by omega)
          generalize gk = gk0 at *
          generalize wr = w20 at *
          have hBY := Lib.hid (bytesR_ok w20 _ l2.rcd.sh l2.rcd.fr l2.rcd.to l2.rcd.sz AR cR l2.rcd.root hRr hw)
          have hll : Bk.rowR ⟨l2.rcd.sh, l2.rcd.fr, l2.rcd.to, l2.rcd.sz, l2.rcd.root⟩ = Bk.rowR l2.rcd := rfl
          rw [hll] at hBY
          have h40 := Bk.length_rowR hw
          have s_4 : w20.cell? ⟨w.heap.size, 4, none⟩ = some (.int .i64 l2.rcd.sh) := hbSr.cell 4
          have s_5 : w20.cell? ⟨w.heap.size, 5, none⟩ = some (.int .i64 l2.rcd.fr) := hbSr.cell 5
          have s_6 : w20.cell? ⟨w.heap.size, 6, none⟩ = some (.int .i64 l2.rcd.to) := hbSr.cell 6
          have s_7 : w20.cell? ⟨w.heap.size, 7, none⟩ = some (.int .i64 l2.rcd.sz) := hbSr.cell 7
          have s_8 : w20.cell? ⟨w.heap.size, 8, none⟩ = some (.slice AR l2.rcd.root.length cR) := hbSr.cell 8
          clear hll hw hbSr hbFr hLb hown hin hj hlj
          obtain ⟨mine, HM⟩ : ∃ m, Hid (m = Bk.rowR l2.rcd) := ⟨_, Lib.hid rfl⟩
          rw [← HM.out] at hBY HT1 HT2 h40
          go_wp2_with fail
          with_reducible refine hBY.out.mono ?_
          rintro e w21 ⟨vm, rfl, hom, hx21⟩
          obtain ⟨Am, cm, hvm, _, _⟩ := Own.shape hom
          have H40 := Lib.hid h40
          subst hvm
          clear h40 s_4 s_5 s_6 s_7 s_8
          have hb21 := H4 w21 hx21
          have s5 : w21.cell? ⟨w.heap.size, 9, none⟩ = some (.int .i64 (r : Int)) := by rw [← HROW.out]; exact hb21.cell 9
          have s6 : w21.cell? ⟨w.heap.size, 10, none⟩ = some (.slice AB l2.bpath.length cB) := hb21.cell 10
          have hrj : r < j := by rw [hjl.out]; exact hr
          have hr0 : (0 : Int) ≤ (r : Int) := by omega
          have hr0B : decide ((r : Int) < 0) = false := decide_eq_false (by omega)
          have hrjB : (r : Int) < (j : Int) := by omega
          have hrjD : decide (j ≤ r) = false := decide_eq_false (by omega)
          have hL21 := HLB w21 hx21
          have hrl : r < (Bk.rows fx.book).length := by unfold Bk.rows; rw [List.length_map]; exact hr
          have hgr : (Bk.rows fx.book)[r] = Bk.rowR (fx.book[r]'hr) := by simp [Bk.rows]
          obtain ⟨gR, oR, uR, hAr, hcR, _, hgR, huR⟩ := hL21.at_ hrl
          rw [hgr] at huR
          have hAr2 := Lib.hid hAr
          subst hAr
          obtain ⟨AU, cU, hU⟩ := huR.form
          subst hU
          have HS1 := Lib.hid (same_any w21 _ _ _ _ _ mine huR (OwnB.bytes hom))
          have HM21 := OwnB.bytes hom
          clear hgr hb21
          have hB21 := hB.below (hyr.trans (hx21.mono hyr.size))
          generalize Bk.rowR fx.book[r] = rr at *
          go_wp2_with fail
          with_reducible refine HS1.out.mono ?_
          rintro e w22 ⟨rfl, n22, hw22⟩
          have hx22 := below_drewN (Below.refl w21.heap.size w21) n22
          rw [← hw22] at hx22
          clear hw22 s5 s6
          have hx2022 := hx21.trans (hx22.mono hx21.size)
          have hx0022 := hx0r.trans (hx2022.mono hx0r.size)
          have hb22 := H4 w22 hx2022
          have hf22 := HF4 w22 hx2022
          by_cases hsr : rr = mine
          · have hsB : (rr == mine) = true := by rw [beq_iff_eq]; exact hsr
            rw [hsB]
            obtain ⟨k, hk, hks, hT3⟩ := HT2.out hsr
            have HT3 := Lib.hid hT3
            have s4 : w22.cell? ⟨w.heap.size, 4, none⟩ = some (.int .i64 (k : Int)) := by rw [← hks]; exact hb22.cell 4
            obtain ⟨gS, oS, cS, y1, y2, y3, hA1, _, hgS, hcS, hy1, _⟩ := shd_at (qsr.below hx2022) hk
            injection hA1 with hA1 hA2 hA3
            clear hA2
            subst hA1 hA3
            obtain ⟨Aw, cw, hyw, hnw, hmw, _⟩ := hy1.shape
            subst hyw
            unfold maxLen at hmw
            have f0 : w22.cell? ⟨gx, 0, none⟩ = some (.slice (some ⟨gS, oS, none⟩) fx.sh.length csx) := hf22.cell 0
            have p2 : w22.cell? ⟨gS, oS + k * 7 + 2, none⟩ = some (.int .i64 fx.sh[k].st) := hcS 2 _ rfl
            have p3 : w22.cell? ⟨gS, oS + k * 7 + 3, none⟩ = some (.slice Aw fx.sh[k].ents.length cw) := hcS 3 _ rfl
            have hkB : (k : Int) < (fx.sh.length : Int) := by omega
            have hk0 : (0 : Int) ≤ (k : Int) := by omega
            have hkD : decide (fx.sh.length ≤ k) = false := decide_eq_false (by omega)
            have hkD2 : decide (k < fx.sh.length) = true := decide_eq_true hk
            clear hsr hsB hT3 hks hcS hb22 hf22 HT1 HT2
            by_cases h4 : fx.sh[k].st = 4
            · have h4B : (fx.sh[k].st == 4) = true := by rw [beq_iff_eq]; exact h4
              clear h4
              generalize fx.sh[k].st = st at *
              generalize fx.sh[k].ents = wa at *
              go_wp2_with fail
              go_ret
              exact ⟨rfl, hx0022⟩
            · have h4B : (fx.sh[k].st == 4) = false := by rw [beq_eq_false_iff_ne]; exact h4
              obtain ⟨p, hp, hps, hT4⟩ := HT3.out h4
              have HT4 := Lib.hid hT4
              have hb22 := H4 w22 hx2022
              have s1 : w22.cell? ⟨w.heap.size, 1, none⟩ = some (.int .i64 (p : Int)) := by rw [← hps]; exact hb22.cell 1
              have s0 : w22.cell? ⟨w.heap.size, 0, none⟩ = some (.slice AE l2.entry.length cE) := hb22.cell 0
              have hy22 := hyr.trans (hx2022.mono hyr.size)
              have hE22 := hE.below hy22
              have hP22 := hP.below hy22
              have hpB : (p : Int) < (fx.sh[k].ents.length : Int) := by omega
              have hp0 : (0 : Int) ≤ (p : Int) := by omega
              have hp0B : decide ((p : Int) < 0) = false := decide_eq_false (by omega)
              have hpD : decide (fx.sh[k].ents.length ≤ p) = false := decide_eq_false (by omega)
              obtain ⟨gW, oW, uW, hAw, hcW, _, hgW, huW⟩ := hy1.at_ hp
              subst hAw
              obtain ⟨Au, cu, hUW⟩ := huW.form
              subst hUW
              clear h4 hT4 hps hb22 HT3
              generalize fx.sh[k].st = st at *
              generalize fx.sh[k].ents = wa at *
              by_cases he : wa[p] = l2.entry
              · have hsame := fun n' => same_any (w22.drewN n') _ _ _ _ _ _ (huW.drewN n') (hE22.drewN n')
                have hsB : (wa[p] == l2.entry) = true := by rw [beq_iff_eq]; exact he
                simp only [hsB] at hsame
                have HSM := Lib.hid hsame
                clear hsame hsB he HT4
                generalize wa[p] = wp at *
                go_wp2_with fail
                go_quiet ((go_at_call 27; exact Calls.quiet_of (HSM.out _)))
                go_wp2_with fail
                go_ret
                exact ⟨rfl, below_drewN hx0022 nq⟩
              · have hsame := fun n' => same_any (w22.drewN n') _ _ _ _ _ _ (huW.drewN n') (hE22.drewN n')
                have hsB : (wa[p] == l2.entry) = false := by rw [beq_eq_false_iff_ne]; exact he
                simp only [hsB] at hsame
                have HSM := Lib.hid hsame
                obtain ⟨q, hq, hq1, hq2, hq3, hq4⟩ := HT4.out he
                have HQ := Lib.hid hq
                have HQ1 := Lib.hid hq1
                have HQ2 := Lib.hid hq2
                clear hsame hsB he HT4 hq hq1 hq2
                generalize wa[p] = wp at *
                go_wp2_with fail
                go_quiet ((go_at_call 27; exact Calls.quiet_of (HSM.out _)))
                go_upto_region 32 with (fail)
                have hx12 := below_drewN hx0022 nq
                have hE2 := hE22.drewN nq
                have hP2 := BList.drewN hP22 nq
                have hwa2 := BList.drewN hy1 nq
                have s0' : (w22.drewN nq).cell? ⟨w.heap.size, 0, none⟩ = some (.slice AE l2.entry.length cE) := s0
                have s1' : (w22.drewN nq).cell? ⟨w.heap.size, 1, none⟩ = some (.int .i64 (p : Int)) := s1
                have s3' : (w22.drewN nq).cell? ⟨w.heap.size, 3, none⟩ = some (.slice AP l2.path.length cP) := (H4 w22 hx2022).cell 3
                clear s0 s1 f0 p2 p3 s4 hE22 hP22 hy1 huW hcW
                generalize w22.drewN nq = w12_ at *
                have HC := Lib.hid (standsC_any w12_ _ _ _ _ _ _ wa l2.entry (p : Int) l2.path hwa2 hE2 hP2)
                rw [HQ.out] at HC
                go_wp2_with fail
                with_reducible refine HC.out.mono ?_
                rintro e w13_ ⟨va, vc, rfl, ho1, ho2, hx13_⟩
                simp only [Option.isSome_some] at *
                have hx013_ := hx12.trans (hx13_.mono hx12.size)
                have hs1 : Bytes w13_ _ va q.1 := OwnB.bytes ho1
                have hs2 : Bytes w13_ _ vc q.2 := OwnB.bytes ho2
                have HS1 := Lib.hid (same_any w13_ _ _ _ _ q.1 q.2 hs1 hs2)
                rw [show (q.1 == q.2) = false by rw [beq_eq_false_iff_ne]; exact HQ1.out] at HS1
                go_wp2_with fail
                with_reducible refine HS1.out.mono ?_
                rintro e w14 ⟨rfl, n14, hw14⟩
                have hx14 := below_drewN (Below.refl w13_.heap.size w13_) n14
                rw [← hw14] at hx14
                clear hw14
                have hs14 := hs1.below hx14
                have hs24 := hs2.below hx14
                go_wp2_with fail
                with_reducible refine (sum_any w14 _ va q.1 hs14 (by omega)).mono ?_
                rintro e w15 ⟨v15, rfl, ho15, hx15⟩
                have hs25 := hs24.below hx15
                have hd15 := OwnB.bytes ho15
                go_wp2_with fail
                with_reducible refine (sum_any w15 _ vc q.2 hs25 (by omega)).mono ?_
                rintro e w16 ⟨v16, rfl, ho16, hx16⟩
                have hd16 := OwnB.bytes ho16
                have HS2 := Lib.hid (same_any w16 _ _ _ _ (Sha.sha256 q.1) (Sha.sha256 q.2) (hd15.below hx16) hd16)
                rw [show (Sha.sha256 q.1 == Sha.sha256 q.2) = true by rw [HQ2.out]; simp] at HS2
                go_wp2_with fail
                with_reducible refine HS2.out.mono ?_
                rintro e w17 ⟨rfl, n17, hw17⟩
                have hx17 := below_drewN (Below.refl w16.heap.size w16) n17
                rw [← hw17] at hx17
                clear hw17
                have hx1314 := hx14.trans (hx15.mono hx14.size)
                have hx1316 := hx1314.trans (hx16.mono hx1314.size)
                have hx1317 := hx1316.trans (hx17.mono hx1316.size)
                have hx017 := hx013_.trans (hx1317.mono hx013_.size)
                have hs17 : Bytes w17 _ va q.1 := hs1.below hx1317
                go_wp2_with fail
                with_reducible refine (in_any w17 _ va q.1 hs17 (by omega)).mono ?_
                rintro e w18 ⟨AI, cI, rfl, hx18⟩
                have hpos : (0 : Int) < ((q.1.length + 1 : Nat) : Int) := by omega
                have hpos2 : (0 : Int) < (q.1.length : Int) + 1 := by omega
                generalize q.1.length = ql at *
                go_wp2_with fail
                go_ret
                exact ⟨rfl, hx017.trans (hx18.mono hx017.size)⟩
          · have hsB : (rr == mine) = false := by rw [beq_eq_false_iff_ne]; exact hsr
            rw [hsB]
            obtain ⟨q, hq, hq1, hq2, hq3, hq4⟩ := HT1.out hsr
            have HQ := Lib.hid hq
            have HQ1 := Lib.hid hq1
            have HQ2 := Lib.hid hq2
            have hL22 := hL21.below hx22
            have hM22 := HM21.below hx22
            have hB22 := hB21.below hx22
            have s9 : w22.cell? ⟨w.heap.size, 9, none⟩ = some (.int .i64 (r : Int)) := by rw [← HROW.out]; exact hb22.cell 9
            have s10 : w22.cell? ⟨w.heap.size, 10, none⟩ = some (.slice AB l2.bpath.length cB) := hb22.cell 10
            have HC := Lib.hid (standsC_any w22 _ _ _ _ _ _ (Bk.rows fx.book) mine (r : Int) l2.bpath hL22 hM22 hB22)
            rw [HQ.out] at HC
            clear hsr hsB hq hq1 hq2 HT1 HT2 hb22 hf22 hcR huR
            go_wp2_with fail
            with_reducible refine HC.out.mono ?_
            rintro e w13_ ⟨va, vc, rfl, ho1, ho2, hx13_⟩
            simp only [Option.isSome_some] at *
            have hx013_ := hx0022.trans (hx13_.mono hx0022.size)
            have hs1 : Bytes w13_ _ va q.1 := OwnB.bytes ho1
            have hs2 : Bytes w13_ _ vc q.2 := OwnB.bytes ho2
            have HS1 := Lib.hid (same_any w13_ _ _ _ _ q.1 q.2 hs1 hs2)
            rw [show (q.1 == q.2) = false by rw [beq_eq_false_iff_ne]; exact HQ1.out] at HS1
            go_wp2_with fail
            with_reducible refine HS1.out.mono ?_
            rintro e w14 ⟨rfl, n14, hw14⟩
            have hx14 := below_drewN (Below.refl w13_.heap.size w13_) n14
            rw [← hw14] at hx14
            clear hw14
            have hs14 := hs1.below hx14
            have hs24 := hs2.below hx14
            go_wp2_with fail
            with_reducible refine (sum_any w14 _ va q.1 hs14 (by omega)).mono ?_
            rintro e w15 ⟨v15, rfl, ho15, hx15⟩
            have hs25 := hs24.below hx15
            have hd15 := OwnB.bytes ho15
            go_wp2_with fail
            with_reducible refine (sum_any w15 _ vc q.2 hs25 (by omega)).mono ?_
            rintro e w16 ⟨v16, rfl, ho16, hx16⟩
            have hd16 := OwnB.bytes ho16
            have HS2 := Lib.hid (same_any w16 _ _ _ _ (Sha.sha256 q.1) (Sha.sha256 q.2) (hd15.below hx16) hd16)
            rw [show (Sha.sha256 q.1 == Sha.sha256 q.2) = true by rw [HQ2.out]; simp] at HS2
            go_wp2_with fail
            with_reducible refine HS2.out.mono ?_
            rintro e w17 ⟨rfl, n17, hw17⟩
            have hx17 := below_drewN (Below.refl w16.heap.size w16) n17
            rw [← hw17] at hx17
            clear hw17
            have hx1314 := hx14.trans (hx15.mono hx14.size)
            have hx1316 := hx1314.trans (hx16.mono hx1314.size)
            have hx1317 := hx1316.trans (hx17.mono hx1316.size)
            have hx017 := hx013_.trans (hx1317.mono hx013_.size)
            go_wp2_with fail
            go_ret
            exact ⟨rfl, hx017⟩
    · have hcf : Fl.checkC l2 (fx.book.length : Int) br = false := by simpa using hc
      rw [hcf]
      clear hc hcf
      go_wp2_with fail
      go_ret
      exact ⟨rfl, hx013⟩
  · have hneX : ((ax : Int) != 0) = true := by rw [bne_iff_ne]; omega
    go_wp2_with fail
    go_ret
    exact ⟨rfl, hxxB⟩
end Go.Proofs.Ytnpfmboolbhpaaa
