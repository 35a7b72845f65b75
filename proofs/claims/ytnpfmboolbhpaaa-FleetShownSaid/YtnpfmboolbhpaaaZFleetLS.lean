/-
  THE WALK of FleetShown. Conditions: what comes in is read.
-/
import Derived.Test.YtnpfmboolbhpaaaZRepr
import Derived.Test.YtnpfmboolbhpaaaZFleetCk
import Derived.Test.YtnpfmboolbhpaaaZFleetL7
import Derived.Test.YtnpfmboolbhpaaaZGv
import Derived.Test.YtnpfmboolbhpaaaZFleetSP
namespace Go.Proofs.Ytnpfmboolbhpaaa
open Go.RowKit Go.Lib

set_option maxRecDepth 100000 in
set_option maxHeartbeats 8000000 in
theorem fleetShown_walk (w : World) (v0 : Value) (l0 : List (Int × Int)) (h0 : RdL w (fun _ => True) v0 l0) (v1 : Value) (l1 : List Dob) (h1 : RdL w (fun _ => True) v1 l1) :
    Calls Try.prog 5 #[v0, v1] w fun e w' => e = .returned (.bool true) ∧ Below w.heap.size w w' := by
  obtain ⟨A0, c0, hv0, hn0, hm0⟩ := h0.form
  obtain ⟨A1, c1, hv1, hn1, hm1⟩ := h1.form
  subst hv0 hv1
  unfold maxLen at hm0 hm1
  go_enter Try.func5, Try.ntmps5
  go_wp2_with fail
  with_reducible refine (alive7 w).mono ?_
  rintro e w1 ⟨rfl, hx1⟩
  obtain ⟨fx, lax, ax, bx, hpl⟩ : ∃ f la a b, Fl.play l0 l1 = (f, la, (a, b)) := ⟨_, _, _, _, rfl⟩
  have HP := Lib.hid (play_any w1 _ _ _ _ l0 l1 (h0.below hx1) (h1.below hx1))
  rw [hpl] at HP
  have HPLx := Lib.hid hpl
  clear hpl
  go_wp2_with fail
  refine HP.out.mono ?_
  rintro e w2 ⟨vs, vb, va, rfl, qsx, qbx, qax, hxpx⟩
  simp only at qsx qbx qax ⊢
  replace qsx := qsx.weak (F' := fun b => b < w2.heap.size) fun b hb _ => hb
  replace qbx := qbx.weak (F' := fun b => b < w2.heap.size) fun b hb _ => hb
  replace qax := qax.weak (F' := fun b => b < w2.heap.size) fun b hb _ => hb
  obtain ⟨Asx, csx, hvs, hlsx, hcsx⟩ := qsx.form
  obtain ⟨Abx, cbx, hvb, hlbx, hcbx⟩ := qbx.form
  obtain ⟨Aax, cax, hva, hlax, hcax⟩ := qax.form
  unfold maxLen at hcsx hcbx hcax
  subst hvs hvb hva
  clear HP
  go_upto_region 4 with (fail)
  have hxqx := ((Below.refl w2.heap.size w2).alloc (Nat.le_refl _) (.cells #[.slice Asx fx.sh.length csx, .slice Abx fx.book.length cbx] 35)).alloc (by simp) (.cells #[.int .i64 (ax : Int), .int .i64 (bx : Int)] 39)
  have hbFx : Blk ((w2.alloc (.cells #[.slice Asx fx.sh.length csx, .slice Abx fx.book.length cbx] 35)).alloc (.cells #[.int .i64 (ax : Int), .int .i64 (bx : Int)] 39)) w2.heap.size 35 #[.slice Asx fx.sh.length csx, .slice Abx fx.book.length cbx] := Blk.alloc (heap_alloc_new w2 _) _
  have hbWx : Blk ((w2.alloc (.cells #[.slice Asx fx.sh.length csx, .slice Abx fx.book.length cbx] 35)).alloc (.cells #[.int .i64 (ax : Int), .int .i64 (bx : Int)] 39)) (w2.heap.size + 1) 39 #[.int .i64 (ax : Int), .int .i64 (bx : Int)] := by
    have := heap_alloc_new (w2.alloc (.cells #[.slice Asx fx.sh.length csx, .slice Abx fx.book.length cbx] 35)) (.cells #[.int .i64 (ax : Int), .int .i64 (bx : Int)] 39)
    rw [World.size_alloc] at this
    exact this
  generalize ((w2.alloc (.cells #[.slice Asx fx.sh.length csx, .slice Abx fx.book.length cbx] 35)).alloc (.cells #[.int .i64 (ax : Int), .int .i64 (bx : Int)] 39)) = w3 at *
  have hxsx := hxpx.trans (hxqx.mono hxpx.size)
  have hxxB := hx1.trans (hxsx.mono hx1.size)
  replace qsx := qsx.below hxqx
  replace qbx := qbx.below hxqx
  replace qax := qax.below hxqx
  have hgwx : w1.heap.size ≤ w2.heap.size := hxpx.size
  clear hxpx hxqx
  generalize w2.heap.size = gx at *
  have e1 : w3.cell? ⟨gx + 1, 0, none⟩ = some (.int .i64 (ax : Int)) := hbWx.cell 0
  by_cases hax : ax = 0
  · have hneX : ((ax : Int) != 0) = false := by rw [bne_eq_false_iff_eq]; omega
    have hpl0 : Fl.play l0 l1 = (fx, lax, (0, bx)) := by rw [HPLx.out, hax]
    obtain ⟨hI, -, px, -, h120⟩ := Fl.play_ok hpl0
    have HPL0 := Lib.hid hpl0
    have hlx : Hid (lax.length = l1.length) := Lib.hid (by rw [px, Fl.length_run])
    have h13 := h1.below hxxB
    have hgx : gx + 1 < w3.heap.size := hbWx.lt
    clear px hpl0 hax
    go_wp2_with fail
    go_loopg [33] l1.length (fun m i wr => ∃ j : Nat, j + m = l1.length ∧ i = .int .i64 (j : Int) ∧ Hid (∀ d ∈ l1.take j, d.kind ≠ 5) ∧ Below w3.heap.size w3 wr)
    case atStart => exact ⟨0, by omega, rfl, Lib.hid (by simp), Below.refl _ _⟩
    case round =>
      obtain ⟨j, hj, rfl, H5, hx⟩ := hrel
      have hxr := hxxB.trans (hx.mono hxxB.size)
      by_cases hlt : j < l1.length
      · obtain ⟨g2, o2, k2, Ae, ce, hA2, _, hg2, d0, d1, d2, d3, d4, d5, d6, hde⟩ := dob_at (h13.below hx) hlt
        injection hA2 with hA2 _ hA3
        subst hA2 hA3
        have hltB : (j : Int) < (l1.length : Int) := by omega
        have hj0 : (0 : Int) ≤ (j : Int) := by omega
        have HN : Hid (l1[j].kind ≠ 5 → ∀ d ∈ l1.take (j + 1), d.kind ≠ 5) := Lib.hid (fun h d hd => by
          rw [List.take_succ_eq_append_getElem hlt] at hd
          rcases List.mem_append.1 hd with hd | hd
          · exact H5.out d hd
          · rw [List.mem_singleton.1 hd]; exact h)
        unfold bv at d6
        generalize l1[j] = d at *
        go_upto_region 9 with (fail)
        have hxb := (Below.refl wr.heap.size wr).alloc (Nat.le_refl _) (.cells #[.int .i64 d.kind, .int .i64 d.n, .int .i64 d.time, .slice Ae d.entry.length ce, .int .i64 d.seg, .int .i64 d.pos, .int .u8 (d.turn.toNat : Int)] 55)
        have hbD : Blk (wr.alloc (.cells #[.int .i64 d.kind, .int .i64 d.n, .int .i64 d.time, .slice Ae d.entry.length ce, .int .i64 d.seg, .int .i64 d.pos, .int .u8 (d.turn.toNat : Int)] 55)) wr.heap.size 55 #[.int .i64 d.kind, .int .i64 d.n, .int .i64 d.time, .slice Ae d.entry.length ce, .int .i64 d.seg, .int .i64 d.pos, .int .u8 (d.turn.toNat : Int)] := heap_alloc_new wr _
        generalize wr.alloc (.cells #[.int .i64 d.kind, .int .i64 d.n, .int .i64 d.time, .slice Ae d.entry.length ce, .int .i64 d.seg, .int .i64 d.pos, .int .u8 (d.turn.toNat : Int)] 55) = w6 at *
        have x0 : w6.cell? ⟨wr.heap.size, 0, none⟩ = some (.int .i64 d.kind) := hbD.cell 0
        have hx6 := hx.trans (hxb.mono hx.size)
        by_cases k5 : d.kind = 5
        · have kB : (d.kind == 5) = true := by rw [beq_iff_eq]; exact k5
          clear k5
          go_wp2_with fail
          go_ret
          exact ⟨rfl, hxxB.trans (hx6.mono hxxB.size)⟩
        · have kB : (d.kind == 5) = false := by rw [beq_eq_false_iff_ne]; exact k5
          have HN2 := Lib.hid (HN.out k5)
          clear k5
          go_wp2_with fail
          go_roundg (gk - 1)
          case measure => omega
          case rel => exact ⟨j + 1, by omega, by go_num, HN2, hx6⟩
      · have hltB : decide ((j : Int) < (l1.length : Int)) = false := decide_eq_false (by omega)
        have H55 : Hid (∀ d ∈ l1, d.kind ≠ 5) := Lib.hid (by
          have h := H5.out
          rw [List.take_of_length_le (by omega)] at h
          exact h)
        clear H5
        generalize gk = gk0 at *
        generalize wr = w9 at *
        have bz1 : w9.cell? ⟨gx, 1, none⟩ = some (.slice Abx fx.book.length cbx) := (hbFx.below hx hbFx.lt).cell 1
        have hHead := Lib.hid (Head_fine w9 _ _ fx.book (qbx.below hx) hI.fineB)
        have hrt : Tr.root ((Bk.rows fx.book).map Tr.leafH) = Fl.bookRoot fx.book := rfl
        rw [hrt] at hHead
        clear hrt
        obtain ⟨br, HBR⟩ : ∃ br, Hid (br = Fl.bookRoot fx.book) := ⟨_, Lib.hid rfl⟩
        rw [← HBR.out] at hHead
        go_wp2_with fail
        with_reducible refine hHead.out.mono ?_
        rintro e w11 ⟨vh, rfl, hoh, hx11⟩
        obtain ⟨Ak, ck, hvh, _, _⟩ := Own.shape hoh
        obtain ⟨nk, hnk⟩ : ∃ n, br.length = n := ⟨_, rfl⟩
        rw [hnk] at hvh
        subst hvh
        clear hnk
        go_upto_region 13 with (fail)
        have hx1112 := ((Below.refl w11.heap.size w11).alloc (Nat.le_refl _) (.cells #[.int .i64 (fx.book.length : Int), .slice Ak nk ck] 27)).alloc (by simp) (.cells #[.int .i64 0, .int .i64 0] 39)
        have hbH : Blk ((w11.alloc (.cells #[.int .i64 (fx.book.length : Int), .slice Ak nk ck] 27)).alloc (.cells #[.int .i64 0, .int .i64 0] 39)) w11.heap.size 27 #[.int .i64 (fx.book.length : Int), .slice Ak nk ck] := Blk.alloc (heap_alloc_new w11 _) _
        have hbE : Blk ((w11.alloc (.cells #[.int .i64 (fx.book.length : Int), .slice Ak nk ck] 27)).alloc (.cells #[.int .i64 0, .int .i64 0] 39)) (w11.heap.size + 1) 39 #[.int .i64 0, .int .i64 0] := by
          have := heap_alloc_new (w11.alloc (.cells #[.int .i64 (fx.book.length : Int), .slice Ak nk ck] 27)) (.cells #[.int .i64 0, .int .i64 0] 39)
          rw [World.size_alloc] at this
          exact this
        generalize ((w11.alloc (.cells #[.int .i64 (fx.book.length : Int), .slice Ak nk ck] 27)).alloc (.cells #[.int .i64 0, .int .i64 0] 39)) = w12 at *
        have hx912 := hx11.trans (hx1112.mono hx11.size)
        have hx312 := hx.trans (hx912.mono hx.size)
        have hx012 := hxxB.trans (hx312.mono hxxB.size)
        have hoh12 := OwnB.bytes (OwnB.below hoh hx1112)
        have hbF12 := hbFx.below hx312 hbFx.lt
        have qs12 := qsx.below hx312
        have qb12 := qbx.below hx312
        have qa12 := qax.below hx312
        have h112 := h13.below hx312
        have z0 : w12.cell? ⟨w11.heap.size + 1, 0, none⟩ = some (.int .i64 0) := hbE.cell 0
        generalize w11.heap.size = gh at *
        have hgh : gh + 1 < w12.heap.size := hbE.lt
        clear hbFx hbWx qsx qbx qax h13 hx11 hx1112 hbE hx hxr hx912 e1 bz1
        go_wp2_with fail
        clear z0
        go_loopg [52] l1.length (fun m i wr => ∃ j : Nat, j + m = l1.length ∧ i = .int .i64 (j : Int) ∧ Below w12.heap.size w12 wr)
        case atStart => exact ⟨0, by omega, rfl, Below.refl _ _⟩
        case round =>
          obtain ⟨j, hj, rfl, hx⟩ := hrel
          have hxr := hx012.trans (hx.mono hx012.size)
          by_cases hlt : j < l1.length
          · have hlt2 : j < lax.length := by have := hlx.out; omega
            obtain ⟨g2, o2, k2, Ae, ce, hA2, _, hg2, d0, d1, d2, d3, d4, d5, d6, hde⟩ := dob_at (h112.below hx) hlt
            obtain ⟨g1, o1, k1, u1, hA1, _, hg1, a0, a1, a2, _⟩ := ans_at (qa12.below hx) hlt2
            injection hA2 with hA2 _ hA3
            subst hA2 hA3
            injection hA1 with hA1 _ hA3
            subst hA1 hA3
            have hltB : (j : Int) < (l1.length : Int) := by omega
            have hlt2B : (j : Int) < (lax.length : Int) := by omega
            have hj0 : (0 : Int) ≤ (j : Int) := by omega
            have HT := Lib.hid (fun h1 h0 => Fl.shown_taken HPL0.out H55.out (List.getElem?_eq_getElem hlt) (List.getElem?_eq_getElem hlt2) h1 h0)
            unfold bv at d6
            generalize l1[j] = d at *
            obtain ⟨re, hre⟩ : ∃ re, lax[j].err = re := ⟨_, rfl⟩
            obtain ⟨rs, hrs⟩ : ∃ rs, lax[j].sh = rs := ⟨_, rfl⟩
            obtain ⟨rp, hrp⟩ : ∃ rp, lax[j].pl = rp := ⟨_, rfl⟩
            rw [hre] at a0 HT
            rw [hrs] at a1 HT
            rw [hrp] at a2 HT
            clear hre hrs hrp
            go_upto_region 18 with (fail)
            have hxb := (Below.refl wr.heap.size wr).alloc (Nat.le_refl _) (.cells #[.int .i64 d.kind, .int .i64 d.n, .int .i64 d.time, .slice Ae d.entry.length ce, .int .i64 d.seg, .int .i64 d.pos, .int .u8 (d.turn.toNat : Int)] 55)
            have hbD : Blk (wr.alloc (.cells #[.int .i64 d.kind, .int .i64 d.n, .int .i64 d.time, .slice Ae d.entry.length ce, .int .i64 d.seg, .int .i64 d.pos, .int .u8 (d.turn.toNat : Int)] 55)) wr.heap.size 55 #[.int .i64 d.kind, .int .i64 d.n, .int .i64 d.time, .slice Ae d.entry.length ce, .int .i64 d.seg, .int .i64 d.pos, .int .u8 (d.turn.toNat : Int)] := heap_alloc_new wr _
            generalize wr.alloc (.cells #[.int .i64 d.kind, .int .i64 d.n, .int .i64 d.time, .slice Ae d.entry.length ce, .int .i64 d.seg, .int .i64 d.pos, .int .u8 (d.turn.toNat : Int)] 55) = w6 at *
            have x0 : w6.cell? ⟨wr.heap.size, 0, none⟩ = some (.int .i64 d.kind) := hbD.cell 0
            have hx6 := hx.trans (hxb.mono hx.size)
            have q0 : w6.cell? ⟨g1, o1 + j * 5, none⟩ = some (.int .i64 (re : Int)) := (hxb.cell (p := ⟨g1, _, none⟩) hg1).trans a0
            have q1 : w6.cell? ⟨g1, o1 + j * 5 + 1, none⟩ = some (.int .i64 rs) := (hxb.cell (p := ⟨g1, _, none⟩) hg1).trans a1
            have q2 : w6.cell? ⟨g1, o1 + j * 5 + 2, none⟩ = some (.int .i64 rp) := (hxb.cell (p := ⟨g1, _, none⟩) hg1).trans a2
            have f0 : w6.cell? ⟨gx, 0, none⟩ = some (.slice Asx fx.sh.length csx) := (hbF12.below hx6 hbF12.lt).cell 0
            have f1 : w6.cell? ⟨gx, 1, none⟩ = some (.slice Abx fx.book.length cbx) := (hbF12.below hx6 hbF12.lt).cell 1
            have hg16 : g1 < w6.heap.size := by have := hxb.size; omega
            have hde6 := hde.below hxb
            generalize wr.heap.size = gd at *
            have hbD' := Lib.hid hbD
            clear a0 a1 a2 d0 d1 d2 d3 d4 d5 d6 hbD hde
            by_cases k1 : d.kind = 1
            · have kB : (d.kind != 1) = false := by rw [bne_eq_false_iff_eq]; exact k1
              by_cases e0 : re = 0
              · have eB : ((re : Int) != 0) = false := by rw [bne_eq_false_iff_eq]; omega
                obtain ⟨k, p, hk, hks, hps, HSH⟩ := HT.out k1 e0
                subst hks hps
                obtain ⟨gS, oS, cS, y1, y2, y3, hA1, _, hgS, hcS, _⟩ := shd_at (qs12.below hx6) hk
                injection hA1 with hA1 _ hA3
                subst hA1 hA3
                have p2 : w6.cell? ⟨gS, oS + k * 7 + 2, none⟩ = some (.int .i64 fx.sh[k].st) := hcS 2 _ rfl
                have hkB : (k : Int) < (fx.sh.length : Int) := by omega
                have hk0 : (0 : Int) ≤ (k : Int) := by omega
                have HSH' := Lib.hid HSH
                clear hcS HSH HT k1 e0
                by_cases hst : fx.sh[k].st = 1
                · have sB : (fx.sh[k].st == 1) = true := by rw [beq_iff_eq]; exact hst
                  clear hst HSH'
                  generalize fx.sh[k].st = st at *
                  go_quiet (fail)
                  go_wp2_with fail
                  go_roundg (gk - 1)
                  case measure => omega
                  case rel => exact ⟨j + 1, by omega, by go_num, below_drewN hx6 nq⟩
                · have sB : (fx.sh[k].st == 1) = false := by rw [beq_eq_false_iff_ne]; exact hst
                  obtain ⟨sh, hsc, hse, hck⟩ := HSH'.out hst
                  have HSC := Lib.hid hsc
                  have HSE := Lib.hid hse
                  have HCK := Lib.hid hck
                  clear hst HSH' hsc hse hck
                  generalize fx.sh[k].st = st at *
                  go_quiet (fail)
                  go_upto_region 19 with (fail)
                  have hx7 := below_drewN hx6 nq
                  have f07 : (w6.drewN nq).cell? ⟨gx, 0, none⟩ = some (.slice (some ⟨gS, oS, none⟩) fx.sh.length csx) := f0
                  have f17 : (w6.drewN nq).cell? ⟨gx, 1, none⟩ = some (.slice Abx fx.book.length cbx) := f1
                  have q17 : (w6.drewN nq).cell? ⟨g1, o1 + j * 5 + 1, none⟩ = some (.int .i64 (k : Int)) := q1
                  have q27 : (w6.drewN nq).cell? ⟨g1, o1 + j * 5 + 2, none⟩ = some (.int .i64 (p : Int)) := q2
                  have hbDs : Blk (w6.drewN nq) gd 55 #[.int .i64 d.kind, .int .i64 d.n, .int .i64 d.time, .slice Ae d.entry.length ce, .int .i64 d.seg, .int .i64 d.pos, .int .u8 (d.turn.toNat : Int)] := hbD'.out
                  have hg17 : g1 < (w6.drewN nq).heap.size := hg16
                  have hde7 := hde6.drewN nq
                  clear f0 f1 q0 q1 q2 p2 hbD' hg16 hde6 x0
                  generalize w6.drewN nq = w7 at *
                  have qs7 := qs12.below hx7
                  have qb7 := qb12.below hx7
                  have hbF7 := hbF12.below hx7 hbF12.lt
                  have hbH7 := hbH.below hx7 (by omega)
                  have hoh7 := hoh12.below hx7
                  have hgx7 : gx < w7.heap.size := hbF7.lt
                  have HSW : ∀ z, Below w7.heap.size w7 z → Calls Try.prog 15 #[.agg #[.slice (some ⟨gS, oS, none⟩) fx.sh.length csx, .slice Abx fx.book.length cbx], .int .i64 (k : Int), .int .i64 (p : Int)] z (ShowO z (0, sh)) := fun z hz => by
                    have h := show_own z _ _ _ _ fx k p (qs7.below hz) (qb7.below hz) hI
                    rw [HSC.out] at h
                    exact h
                  have hSS : ∀ z : World, (∀ b, b < w7.heap.size → z.heap[b]? = w7.heap[b]?) → (z.cell? ⟨gx, 0, none⟩ = some (.slice (some ⟨gS, oS, none⟩) fx.sh.length csx) ∧ z.cell? ⟨gx, 1, none⟩ = some (.slice Abx fx.book.length cbx) ∧ z.cell? ⟨g1, o1 + j * 5 + 1, none⟩ = some (.int .i64 (k : Int)) ∧ z.cell? ⟨g1, o1 + j * 5 + 2, none⟩ = some (.int .i64 (p : Int))) := fun z hz => ⟨(World.cell?_of_block (hz _ hgx7)).trans f07, (World.cell?_of_block (hz _ hgx7)).trans f17, (World.cell?_of_block (hz _ hg17)).trans q17, (World.cell?_of_block (hz _ hg17)).trans q27⟩
                  clear hbF7
                  go_cut [14, 15] (fun u14 u15 z => ∃ g AE cE AP cP AR cR AB cB AH cH, u14 = .pointer (some ⟨g, 0, none⟩) ∧ u15 = .int .i64 0 ∧ Blk z g 31 #[.slice AE sh.entry.length cE, .int .i64 sh.place, .int .i64 sh.shard, .slice AP sh.path.length cP, .int .i64 sh.rcd.sh, .int .i64 sh.rcd.fr, .int .i64 sh.rcd.to, .int .i64 sh.rcd.sz, .slice AR sh.rcd.root.length cR, .int .i64 sh.row, .slice AB sh.bpath.length cB, .int .i64 sh.hsz, .slice AH sh.hroot.length cH] ∧ Rp.rd z (fun b => b ≠ g) [.slice AE sh.entry.length cE, .int .i64 sh.place, .int .i64 sh.shard, .slice AP sh.path.length cP, .int .i64 sh.rcd.sh, .int .i64 sh.rcd.fr, .int .i64 sh.rcd.to, .int .i64 sh.rcd.sz, .slice AR sh.rcd.root.length cR, .int .i64 sh.row, .slice AB sh.bpath.length cB, .int .i64 sh.hsz, .slice AH sh.hroot.length cH] sh ∧ Below w7.heap.size w7 z)
                  case first =>
                    refine wp_region_held_drew (S := (fun z : World => z.cell? ⟨gx, 0, none⟩ = some (.slice (some ⟨gS, oS, none⟩) fx.sh.length csx) ∧ z.cell? ⟨gx, 1, none⟩ = some (.slice Abx fx.book.length cbx) ∧ z.cell? ⟨g1, o1 + j * 5 + 1, none⟩ = some (.int .i64 (k : Int)) ∧ z.cell? ⟨g1, o1 + j * 5 + 2, none⟩ = some (.int .i64 (p : Int)))) (by kernel_rfl) ?_ (fun hHeld => ?_)
                    · exact hSS w7.drew (fun _ _ => rfl)
                    refine step_take (i := 0) (v := ?_) rfl (by kernel_rfl) (by kernel_rfl) (by kernel_rfl) (fun _ _ _ h => h) (by rfl) ?yh1 (by assumption) ?_
                    case yh1 => (intro w hSw; (try dsimp only at hSw); go_simp; (try with_reducible rfl))
                    try simp only [Act.put, List.setIfInBounds_toArray, List.set_cons_zero, List.set_cons_succ]
                    refine step_take (i := 1) (v := ?_) rfl (by kernel_rfl) (by kernel_rfl) (by kernel_rfl) (fun _ _ _ h => h) (by rfl) ?yh2 (by assumption) ?_
                    case yh2 => (intro w hSw; (try dsimp only at hSw); go_simp; (try with_reducible rfl))
                    try simp only [Act.put, List.setIfInBounds_toArray, List.set_cons_zero, List.set_cons_succ]
                    refine step_take (i := 2) (v := ?_) rfl (by kernel_rfl) (by kernel_rfl) (by kernel_rfl) (fun _ _ _ h => h) (by rfl) ?yh3 (by assumption) ?_
                    case yh3 => (intro w hSw; (try dsimp only at hSw); go_simp; (try with_reducible rfl))
                    try simp only [Act.put, List.setIfInBounds_toArray, List.set_cons_zero, List.set_cons_succ]
                    refine step_take (i := 3) (v := ?_) rfl (by kernel_rfl) (by kernel_rfl) (by kernel_rfl) (fun _ _ _ h => h) (by rfl) ?yh4 (by assumption) ?_
                    case yh4 => (intro w hSw; (try dsimp only at hSw); go_simp; (try with_reducible rfl))
                    try simp only [Act.put, List.setIfInBounds_toArray, List.set_cons_zero, List.set_cons_succ]
                    refine step_take (i := 4) (v := ?_) rfl (by kernel_rfl) (by kernel_rfl) (by kernel_rfl) (fun _ _ _ h => h) (by rfl) ?yh5 (by assumption) ?_
                    case yh5 => (intro w hSw; (try dsimp only at hSw); go_simp; (try with_reducible rfl))
                    try simp only [Act.put, List.setIfInBounds_toArray, List.set_cons_zero, List.set_cons_succ]
                    refine step_take (i := 5) (v := ?_) rfl (by kernel_rfl) (by kernel_rfl) (by kernel_rfl) (fun _ _ _ h => h) (by rfl) ?yh6 (by assumption) ?_
                    case yh6 => (intro w hSw; (try dsimp only at hSw); go_simp; (try with_reducible rfl))
                    try simp only [Act.put, List.setIfInBounds_toArray, List.set_cons_zero, List.set_cons_succ]
                    refine step_take (i := 6) (v := ?_) rfl (by kernel_rfl) (by kernel_rfl) (by kernel_rfl) (fun _ _ _ h => h) (by rfl) ?yh7 (by assumption) ?_
                    case yh7 => (intro w hSw; (try dsimp only at hSw); go_simp; (try with_reducible rfl))
                    try simp only [Act.put, List.setIfInBounds_toArray, List.set_cons_zero, List.set_cons_succ]
                    refine step_take (i := 7) (v := ?_) rfl (by kernel_rfl) (by kernel_rfl) (by kernel_rfl) (fun _ _ _ h => h) (by rfl) ?yh8 (by assumption) ?_
                    case yh8 => (intro w hSw; (try dsimp only at hSw); go_simp; (try with_reducible rfl))
                    try simp only [Act.put, List.setIfInBounds_toArray, List.set_cons_zero, List.set_cons_succ]
                    refine step_take (i := 8) (v := ?_) rfl (by kernel_rfl) (by kernel_rfl) (by kernel_rfl) (fun _ _ _ h => h) (by rfl) ?yh9 (by assumption) ?_
                    case yh9 => (intro w hSw; (try dsimp only at hSw); go_simp; (try with_reducible rfl))
                    try simp only [Act.put, List.setIfInBounds_toArray, List.set_cons_zero, List.set_cons_succ]
                    refine step_take (i := 9) (v := ?_) rfl (by kernel_rfl) (by kernel_rfl) (by kernel_rfl) (fun _ _ _ h => h) (by rfl) ?yh10 (by assumption) ?_
                    case yh10 => (intro w hSw; (try dsimp only at hSw); go_simp; (try with_reducible rfl))
                    try simp only [Act.put, List.setIfInBounds_toArray, List.set_cons_zero, List.set_cons_succ]
                    refine step_take (i := 10) (v := ?_) rfl (by kernel_rfl) (by kernel_rfl) (by kernel_rfl) (fun _ _ _ h => h) (by rfl) ?yh11 (by assumption) ?_
                    case yh11 => (intro w hSw; (try dsimp only at hSw); go_simp; (try with_reducible rfl))
                    try simp only [Act.put, List.setIfInBounds_toArray, List.set_cons_zero, List.set_cons_succ]
                    refine step_two 11 15 rfl rfl (by kernel_rfl) (by rfl) (by rfl) (fun K hK => ?_) (fun K hK => ?_)
                    · skip
                      go_simp
                      refine (HSW w7.drew (Below.refl w7.heap.size w7).drew).mono ?_
                      rintro e w8 ⟨cs8, rfl, hrd, hx8⟩
                      simp only at hrd ⊢
                      obtain ⟨AE, cE, AP, cP, AR, cR, AB, cB, AH, cH, hcs8, _⟩ := shw_open hrd
                      subst hcs8
                      have hx78 : Below w7.heap.size w7 w8 := Below.trans ((Below.refl w7.heap.size w7).drew) (Below.mono hx8 (Nat.le_refl _))
                      go_simp
                      refine hK.out _ _ ?_ (fun hHeld => ?_)
                      · exact hSS w8 (fun b hb => hx78.block b hb)
                      clear hK K
                      try simp only [Act.put, List.setIfInBounds_toArray, List.set_cons_zero, List.set_cons_succ]
                      refine step_take (i := 12) (v := ?_) rfl (by kernel_rfl) (by kernel_rfl) (by kernel_rfl) (fun _ _ _ h => h) (by rfl) ?yh12 (by assumption) ?_
                      case yh12 => (intro w hSw; (try dsimp only at hSw); go_simp; (try with_reducible rfl))
                      try simp only [Act.put, List.setIfInBounds_toArray, List.set_cons_zero, List.set_cons_succ]
                      refine step_take (i := 13) (v := ?_) rfl (by kernel_rfl) (by kernel_rfl) (by kernel_rfl) (fun _ _ _ h => h) (by rfl) ?yh13 (by assumption) ?_
                      case yh13 => (intro w hSw; (try dsimp only at hSw); go_simp; (try with_reducible rfl))
                      try simp only [Act.put, List.setIfInBounds_toArray, List.set_cons_zero, List.set_cons_succ]
                      refine step_take (i := 14) (v := ?_) rfl (by kernel_rfl) (by kernel_rfl) (by kernel_rfl) (fun _ _ _ h => h) (by rfl) ?yh14 (by assumption) ?_
                      case yh14 => (intro w hSw; (try dsimp only at hSw); go_simp; (try with_reducible rfl))
                      try simp only [Act.put, List.setIfInBounds_toArray, List.set_cons_zero, List.set_cons_succ]
                      refine step_alone 15 rfl (by kernel_rfl) (by rfl) (fun K hK => ?_)
                      go_simp
                      refine hK.out _ _ ?_ (fun hHeld => ?_)
                      · exact hSS _ (fun b hb => (hx78.alloc hx78.size _).block b hb)
                      clear hK K
                      try simp only [Act.put, List.setIfInBounds_toArray, List.set_cons_zero, List.set_cons_succ]
                      refine step_alone 16 rfl (by kernel_rfl) (by rfl) (fun K hK => ?_)
                      go_simp
                      refine hK.out _ _ ?_ (fun hHeld => ?_)
                      · exact hSS _ (fun b hb => (hx78.alloc hx78.size _).block b hb)
                      clear hK K
                      try simp only [Act.put, List.setIfInBounds_toArray, List.set_cons_zero, List.set_cons_succ]
                      refine step_take (i := 17) (v := ?_) rfl (by kernel_rfl) (by kernel_rfl) (by kernel_rfl) (fun _ _ _ h => h) (by rfl) ?yh17 (by assumption) ?_
                      case yh17 => (intro w hSw; (try dsimp only at hSw); go_simp; (try with_reducible rfl))
                      try simp only [Act.put, List.setIfInBounds_toArray, List.set_cons_zero, List.set_cons_succ]
                      refine wpAnyH_done (by kernel_rfl) ?_ _
                      have hrdG := Rp.keep (w' := w8.alloc (.cells #[.slice AE sh.entry.length cE, .int .i64 sh.place, .int .i64 sh.shard, .slice AP sh.path.length cP, .int .i64 sh.rcd.sh, .int .i64 sh.rcd.fr, .int .i64 sh.rcd.to, .int .i64 sh.rcd.sz, .slice AR sh.rcd.root.length cR, .int .i64 sh.row, .slice AB sh.bpath.length cB, .int .i64 sh.hsz, .slice AH sh.hroot.length cH] 31)) (F' := fun b => b ≠ w8.heap.size) hrd (by simp) (fun b hb _ => ⟨by omega, Below.heap_alloc _ _ _ hb⟩)
                      go_wp2_with fail
                      go_meet
                      exact ⟨_, _, _, _, _, _, _, _, _, _, _, rfl, rfl, heap_alloc_new w8 _, hrdG, hx78.alloc hx78.size _⟩
                    · skip
                      go_simp
                      have hx9 := ((Below.refl w7.heap.size w7).alloc (Nat.le_refl _) (.cells #[.slice none 0 0, .int .i64 0, .int .i64 0, .slice none 0 0, .int .i64 0, .int .i64 0, .int .i64 0, .int .i64 0, .slice none 0 0, .int .i64 0, .slice none 0 0, .int .i64 0, .slice none 0 0] 31)).drew
                      have hbZ : Blk (w7.alloc (.cells #[.slice none 0 0, .int .i64 0, .int .i64 0, .slice none 0 0, .int .i64 0, .int .i64 0, .int .i64 0, .int .i64 0, .slice none 0 0, .int .i64 0, .slice none 0 0, .int .i64 0, .slice none 0 0] 31)).drew w7.heap.size 31 #[.slice none 0 0, .int .i64 0, .int .i64 0, .slice none 0 0, .int .i64 0, .int .i64 0, .int .i64 0, .int .i64 0, .slice none 0 0, .int .i64 0, .slice none 0 0, .int .i64 0, .slice none 0 0] := heap_alloc_new w7 _
                      generalize (w7.alloc (.cells #[.slice none 0 0, .int .i64 0, .int .i64 0, .slice none 0 0, .int .i64 0, .int .i64 0, .int .i64 0, .int .i64 0, .slice none 0 0, .int .i64 0, .slice none 0 0, .int .i64 0, .slice none 0 0] 31)).drew = w9 at *
                      refine hK.out _ _ ?_ (fun hHeld => ?_)
                      · exact hSS w9 (fun b hb => hx9.block b hb)
                      clear hK K
                      try simp only [Act.put, List.setIfInBounds_toArray, List.set_cons_zero, List.set_cons_succ]
                      refine step_alone 11 rfl (by kernel_rfl) (by rfl) (fun K hK => ?_)
                      go_simp
                      refine (HSW w9 hx9).mono ?_
                      rintro e w8 ⟨cs8, rfl, hrd, hx8⟩
                      simp only at hrd ⊢
                      obtain ⟨AE, cE, AP, cP, AR, cR, AB, cB, AH, cH, hcs8, _⟩ := shw_open hrd
                      subst hcs8
                      have hx78 : Below w7.heap.size w7 w8 := Below.trans (hx9) (Below.mono hx8 (hx9.size))
                      go_simp
                      refine hK.out _ _ ?_ (fun hHeld => ?_)
                      · exact hSS w8 (fun b hb => hx78.block b hb)
                      clear hK K
                      try simp only [Act.put, List.setIfInBounds_toArray, List.set_cons_zero, List.set_cons_succ]
                      refine step_take (i := 12) (v := ?_) rfl (by kernel_rfl) (by kernel_rfl) (by kernel_rfl) (fun _ _ _ h => h) (by rfl) ?yh19 (by assumption) ?_
                      case yh19 => (intro w hSw; (try dsimp only at hSw); go_simp; (try with_reducible rfl))
                      try simp only [Act.put, List.setIfInBounds_toArray, List.set_cons_zero, List.set_cons_succ]
                      refine step_take (i := 13) (v := ?_) rfl (by kernel_rfl) (by kernel_rfl) (by kernel_rfl) (fun _ _ _ h => h) (by rfl) ?yh20 (by assumption) ?_
                      case yh20 => (intro w hSw; (try dsimp only at hSw); go_simp; (try with_reducible rfl))
                      try simp only [Act.put, List.setIfInBounds_toArray, List.set_cons_zero, List.set_cons_succ]
                      refine step_take (i := 14) (v := ?_) rfl (by kernel_rfl) (by kernel_rfl) (by kernel_rfl) (fun _ _ _ h => h) (by rfl) ?yh21 (by assumption) ?_
                      case yh21 => (intro w hSw; (try dsimp only at hSw); go_simp; (try with_reducible rfl))
                      try simp only [Act.put, List.setIfInBounds_toArray, List.set_cons_zero, List.set_cons_succ]
                      refine step_alone 16 rfl (by kernel_rfl) (by rfl) (fun K hK => ?_)
                      have hbZ8 := hbZ.below hx8 hbZ.lt
                      have cc0 : w8.cell? ⟨w7.heap.size, 0, none⟩ = some (.slice none 0 0) := hbZ8.cell 0
                      have cf0 := hbZ8.frozen 0
                      have cc1 : w8.cell? ⟨w7.heap.size, 1, none⟩ = some (.int .i64 0) := hbZ8.cell 1
                      have cf1 := hbZ8.frozen 1
                      have cc2 : w8.cell? ⟨w7.heap.size, 2, none⟩ = some (.int .i64 0) := hbZ8.cell 2
                      have cf2 := hbZ8.frozen 2
                      have cc3 : w8.cell? ⟨w7.heap.size, 3, none⟩ = some (.slice none 0 0) := hbZ8.cell 3
                      have cf3 := hbZ8.frozen 3
                      have cc4 : w8.cell? ⟨w7.heap.size, 4, none⟩ = some (.int .i64 0) := hbZ8.cell 4
                      have cf4 := hbZ8.frozen 4
                      have cc5 : w8.cell? ⟨w7.heap.size, 5, none⟩ = some (.int .i64 0) := hbZ8.cell 5
                      have cf5 := hbZ8.frozen 5
                      have cc6 : w8.cell? ⟨w7.heap.size, 6, none⟩ = some (.int .i64 0) := hbZ8.cell 6
                      have cf6 := hbZ8.frozen 6
                      have cc7 : w8.cell? ⟨w7.heap.size, 7, none⟩ = some (.int .i64 0) := hbZ8.cell 7
                      have cf7 := hbZ8.frozen 7
                      have cc8 : w8.cell? ⟨w7.heap.size, 8, none⟩ = some (.slice none 0 0) := hbZ8.cell 8
                      have cf8 := hbZ8.frozen 8
                      have cc9 : w8.cell? ⟨w7.heap.size, 9, none⟩ = some (.int .i64 0) := hbZ8.cell 9
                      have cf9 := hbZ8.frozen 9
                      have cc10 : w8.cell? ⟨w7.heap.size, 10, none⟩ = some (.slice none 0 0) := hbZ8.cell 10
                      have cf10 := hbZ8.frozen 10
                      have cc11 : w8.cell? ⟨w7.heap.size, 11, none⟩ = some (.int .i64 0) := hbZ8.cell 11
                      have cf11 := hbZ8.frozen 11
                      have cc12 : w8.cell? ⟨w7.heap.size, 12, none⟩ = some (.slice none 0 0) := hbZ8.cell 12
                      have cf12 := hbZ8.frozen 12
                      go_simp
                      have hW : setL w8 w7.heap.size 0 [.slice AE sh.entry.length cE, .int .i64 sh.place, .int .i64 sh.shard, .slice AP sh.path.length cP, .int .i64 sh.rcd.sh, .int .i64 sh.rcd.fr, .int .i64 sh.rcd.to, .int .i64 sh.rcd.sz, .slice AR sh.rcd.root.length cR, .int .i64 sh.row, .slice AB sh.bpath.length cB, .int .i64 sh.hsz, .slice AH sh.hroot.length cH] = (((((((((((((w8.setCell ⟨w7.heap.size, 0, none⟩ (.slice AE sh.entry.length cE)).setCell ⟨w7.heap.size, 1, none⟩ (.int .i64 sh.place)).setCell ⟨w7.heap.size, 2, none⟩ (.int .i64 sh.shard)).setCell ⟨w7.heap.size, 3, none⟩ (.slice AP sh.path.length cP)).setCell ⟨w7.heap.size, 4, none⟩ (.int .i64 sh.rcd.sh)).setCell ⟨w7.heap.size, 5, none⟩ (.int .i64 sh.rcd.fr)).setCell ⟨w7.heap.size, 6, none⟩ (.int .i64 sh.rcd.to)).setCell ⟨w7.heap.size, 7, none⟩ (.int .i64 sh.rcd.sz)).setCell ⟨w7.heap.size, 8, none⟩ (.slice AR sh.rcd.root.length cR)).setCell ⟨w7.heap.size, 9, none⟩ (.int .i64 sh.row)).setCell ⟨w7.heap.size, 10, none⟩ (.slice AB sh.bpath.length cB)).setCell ⟨w7.heap.size, 11, none⟩ (.int .i64 sh.hsz)).setCell ⟨w7.heap.size, 12, none⟩ (.slice AH sh.hroot.length cH)) := rfl
                      rw [← hW]
                      clear hW
                      refine hK.out _ _ ?_ (fun hHeld => ?_)
                      · exact hSS _ (fun b hb => (setL_far (Nat.ne_of_lt hb) _ _ _).trans (hx78.block b hb))
                      clear hK K
                      try simp only [Act.put, List.setIfInBounds_toArray, List.set_cons_zero, List.set_cons_succ]
                      refine step_take (i := 17) (v := ?_) rfl (by kernel_rfl) (by kernel_rfl) (by kernel_rfl) (fun _ _ _ h => h) (by rfl) ?yh23 (by assumption) ?_
                      case yh23 => (intro w hSw; (try dsimp only at hSw); go_simp; (try with_reducible rfl))
                      try simp only [Act.put, List.setIfInBounds_toArray, List.set_cons_zero, List.set_cons_succ]
                      refine wpAnyH_done (by kernel_rfl) ?_ _
                      have hbG := setL_blk [.slice AE sh.entry.length cE, .int .i64 sh.place, .int .i64 sh.shard, .slice AP sh.path.length cP, .int .i64 sh.rcd.sh, .int .i64 sh.rcd.fr, .int .i64 sh.rcd.to, .int .i64 sh.rcd.sz, .slice AR sh.rcd.root.length cR, .int .i64 sh.row, .slice AB sh.bpath.length cB, .int .i64 sh.hsz, .slice AH sh.hroot.length cH] [.slice none 0 0, .int .i64 0, .int .i64 0, .slice none 0 0, .int .i64 0, .int .i64 0, .int .i64 0, .int .i64 0, .slice none 0 0, .int .i64 0, .slice none 0 0, .int .i64 0, .slice none 0 0] [] w8 rfl hbZ8
                      have hxG : Below w7.heap.size w7 (setL w8 w7.heap.size 0 [.slice AE sh.entry.length cE, .int .i64 sh.place, .int .i64 sh.shard, .slice AP sh.path.length cP, .int .i64 sh.rcd.sh, .int .i64 sh.rcd.fr, .int .i64 sh.rcd.to, .int .i64 sh.rcd.sz, .slice AR sh.rcd.root.length cR, .int .i64 sh.row, .slice AB sh.bpath.length cB, .int .i64 sh.hsz, .slice AH sh.hroot.length cH]) := setL_below (Nat.le_refl _) _ _ _ hx78
                      have hrdG := Rp.keep (w' := setL w8 w7.heap.size 0 [.slice AE sh.entry.length cE, .int .i64 sh.place, .int .i64 sh.shard, .slice AP sh.path.length cP, .int .i64 sh.rcd.sh, .int .i64 sh.rcd.fr, .int .i64 sh.rcd.to, .int .i64 sh.rcd.sz, .slice AR sh.rcd.root.length cR, .int .i64 sh.row, .slice AB sh.bpath.length cB, .int .i64 sh.hsz, .slice AH sh.hroot.length cH]) (F' := fun b => b ≠ w7.heap.size) hrd (by rw [setL_size]; exact Nat.le_refl _) (fun b _ hF => by have h1 : w9.heap.size ≤ b := hF; have h2 := hbZ.lt; exact ⟨by omega, setL_far (by omega) _ _ _⟩)
                      go_wp2_with fail
                      go_meet
                      exact ⟨_, _, _, _, _, _, _, _, _, _, _, rfl, rfl, hbG, hrdG, hxG⟩
                  case rest =>
                    obtain ⟨g, AE, cE, AP, cP, AR, cR, AB, cB, AH, cH, rfl, rfl, hbG, hrd, hx7c⟩ := hcut
                    obtain ⟨AE', cE', _, _, _, _, _, _, _, _, hcs', hE, _⟩ := shw_open hrd
                    have e1 := (List.cons.inj hcs').1
                    clear hcs'
                    injection e1 with e1 e2 e3
                    clear e2
                    subst e1 e3
                    have hxc := hx7.trans (hx7c.mono hx7.size)
                    have c_0 : wc.cell? ⟨g, 0, none⟩ = some (.slice AE sh.entry.length cE) := hbG.cell 0
                    have c_1 : wc.cell? ⟨g, 1, none⟩ = some (.int .i64 sh.place) := hbG.cell 1
                    have c_2 : wc.cell? ⟨g, 2, none⟩ = some (.int .i64 sh.shard) := hbG.cell 2
                    have c_3 : wc.cell? ⟨g, 3, none⟩ = some (.slice AP sh.path.length cP) := hbG.cell 3
                    have c_4 : wc.cell? ⟨g, 4, none⟩ = some (.int .i64 sh.rcd.sh) := hbG.cell 4
                    have c_5 : wc.cell? ⟨g, 5, none⟩ = some (.int .i64 sh.rcd.fr) := hbG.cell 5
                    have c_6 : wc.cell? ⟨g, 6, none⟩ = some (.int .i64 sh.rcd.to) := hbG.cell 6
                    have c_7 : wc.cell? ⟨g, 7, none⟩ = some (.int .i64 sh.rcd.sz) := hbG.cell 7
                    have c_8 : wc.cell? ⟨g, 8, none⟩ = some (.slice AR sh.rcd.root.length cR) := hbG.cell 8
                    have c_9 : wc.cell? ⟨g, 9, none⟩ = some (.int .i64 sh.row) := hbG.cell 9
                    have c_10 : wc.cell? ⟨g, 10, none⟩ = some (.slice AB sh.bpath.length cB) := hbG.cell 10
                    have c_11 : wc.cell? ⟨g, 11, none⟩ = some (.int .i64 sh.hsz) := hbG.cell 11
                    have c_12 : wc.cell? ⟨g, 12, none⟩ = some (.slice AH sh.hroot.length cH) := hbG.cell 12
                    have m3 : wc.cell? ⟨gd, 3, none⟩ = some (.slice Ae d.entry.length ce) := (hbDs.below hx7c hbDs.lt).cell 3
                    have HSM := Lib.hid (same_any wc _ _ _ _ sh.entry d.entry hE (hde7.below hx7c))
                    rw [show (sh.entry == d.entry) = true by rw [HSE.out]; simp] at HSM
                    have hbHc := hbH7.below hx7c hbH7.lt
                    have hohc := hoh7.below hx7c
                    have hrd' := hrd
                    have HG := Lib.hid hbG
                    have HH := Lib.hid hbHc
                    clear hbG hbHc hbH7 hbDs hSS HSW hrd
                    go_wp2_with fail
                    with_reducible refine HSM.out.mono ?_
                    rintro e wd ⟨rfl, n8, hw8⟩
                    have hxd := below_drewN hxc n8
                    have hrdd : Rp.rd (wc.drewN n8) (fun b => b ≠ g) [.slice AE sh.entry.length cE, .int .i64 sh.place, .int .i64 sh.shard, .slice AP sh.path.length cP, .int .i64 sh.rcd.sh, .int .i64 sh.rcd.fr, .int .i64 sh.rcd.to, .int .i64 sh.rcd.sz, .slice AR sh.rcd.root.length cR, .int .i64 sh.row, .slice AB sh.bpath.length cB, .int .i64 sh.hsz, .slice AH sh.hroot.length cH] sh := Rp.drewN hrd' n8
                    have hohd : Bytes (wc.drewN n8) _ (.slice Ak nk ck) br := hohc.drewN n8
                    have hbGd : Blk (wc.drewN n8) g 31 #[.slice AE sh.entry.length cE, .int .i64 sh.place, .int .i64 sh.shard, .slice AP sh.path.length cP, .int .i64 sh.rcd.sh, .int .i64 sh.rcd.fr, .int .i64 sh.rcd.to, .int .i64 sh.rcd.sz, .slice AR sh.rcd.root.length cR, .int .i64 sh.row, .slice AB sh.bpath.length cB, .int .i64 sh.hsz, .slice AH sh.hroot.length cH] := HG.out
                    have hbHd : Blk (wc.drewN n8) gh 27 #[.int .i64 (fx.book.length : Int), .slice Ak nk ck] := HH.out
                    rw [← hw8] at hxd hrdd hohd hbGd hbHd
                    clear hw8 m3 c_0 c_1 c_2 c_3 c_4 c_5 c_6 c_7 c_8 c_9 c_10 c_11 c_12
                    have d_0 : wd.cell? ⟨g, 0, none⟩ = some (.slice AE sh.entry.length cE) := hbGd.cell 0
                    have d_1 : wd.cell? ⟨g, 1, none⟩ = some (.int .i64 sh.place) := hbGd.cell 1
                    have d_2 : wd.cell? ⟨g, 2, none⟩ = some (.int .i64 sh.shard) := hbGd.cell 2
                    have d_3 : wd.cell? ⟨g, 3, none⟩ = some (.slice AP sh.path.length cP) := hbGd.cell 3
                    have d_4 : wd.cell? ⟨g, 4, none⟩ = some (.int .i64 sh.rcd.sh) := hbGd.cell 4
                    have d_5 : wd.cell? ⟨g, 5, none⟩ = some (.int .i64 sh.rcd.fr) := hbGd.cell 5
                    have d_6 : wd.cell? ⟨g, 6, none⟩ = some (.int .i64 sh.rcd.to) := hbGd.cell 6
                    have d_7 : wd.cell? ⟨g, 7, none⟩ = some (.int .i64 sh.rcd.sz) := hbGd.cell 7
                    have d_8 : wd.cell? ⟨g, 8, none⟩ = some (.slice AR sh.rcd.root.length cR) := hbGd.cell 8
                    have d_9 : wd.cell? ⟨g, 9, none⟩ = some (.int .i64 sh.row) := hbGd.cell 9
                    have d_10 : wd.cell? ⟨g, 10, none⟩ = some (.slice AB sh.bpath.length cB) := hbGd.cell 10
                    have d_11 : wd.cell? ⟨g, 11, none⟩ = some (.int .i64 sh.hsz) := hbGd.cell 11
                    have d_12 : wd.cell? ⟨g, 12, none⟩ = some (.slice AH sh.hroot.length cH) := hbGd.cell 12
                    have m0 : wd.cell? ⟨gh, 0, none⟩ = some (.int .i64 (fx.book.length : Int)) := hbHd.cell 0
                    have m1 : wd.cell? ⟨gh, 1, none⟩ = some (.slice Ak nk ck) := hbHd.cell 1
                    have HCC := Lib.hid (check_any wd _ _ [.slice AE sh.entry.length cE, .int .i64 sh.place, .int .i64 sh.shard, .slice AP sh.path.length cP, .int .i64 sh.rcd.sh, .int .i64 sh.rcd.fr, .int .i64 sh.rcd.to, .int .i64 sh.rcd.sz, .slice AR sh.rcd.root.length cR, .int .i64 sh.row, .slice AB sh.bpath.length cB, .int .i64 sh.hsz, .slice AH sh.hroot.length cH] sh (fx.book.length : Int) br (.slice Ak nk ck) hrdd hohd)
                    rw [show Fl.checkC sh (fx.book.length : Int) br = true by rw [HBR.out]; exact HCK.out] at HCC
                    clear hbGd hbHd
                    go_wp2_with fail
                    with_reducible refine HCC.out.mono ?_
                    rintro e we ⟨rfl, hxe⟩
                    go_wp2_with fail
                    go_roundg (gk - 1)
                    case measure => omega
                    case rel => exact ⟨j + 1, by omega, by go_num, hxd.trans (hxe.mono hxd.size)⟩
              · have eB : ((re : Int) != 0) = true := by rw [bne_iff_ne]; omega
                clear HT e0
                go_quiet (fail)
                go_wp2_with fail
                go_roundg (gk - 1)
                case measure => omega
                case rel => exact ⟨j + 1, by omega, by go_num, below_drewN hx6 nq⟩
            · have kB : (d.kind != 1) = true := by rw [bne_iff_ne]; exact k1
              clear HT k1
              go_quiet (fail)
              go_wp2_with fail
              go_roundg (gk - 1)
              case measure => omega
              case rel => exact ⟨j + 1, by omega, by go_num, below_drewN hx6 nq⟩
          · have hltB : decide ((j : Int) < (l1.length : Int)) = false := decide_eq_false (by omega)
            go_wp2_with fail
            go_ret
            exact ⟨rfl, hxr⟩
  · have hneX : ((ax : Int) != 0) = true := by rw [bne_iff_ne]; omega
    have hB : ((lax.length : Int) == 0) = true := by rw [Fl.play_bad HPLx.out hax]; rfl
    go_wp2_with fail
    go_ret
    exact ⟨rfl, hxxB⟩
end Go.Proofs.Ytnpfmboolbhpaaa
