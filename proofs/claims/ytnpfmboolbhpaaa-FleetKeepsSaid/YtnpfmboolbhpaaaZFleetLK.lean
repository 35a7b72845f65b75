/-
  THE WALK of FleetKeeps. Conditions: what comes in is read.
-/
import Derived.Test.YtnpfmboolbhpaaaZRepr
import Derived.Test.YtnpfmboolbhpaaaZFleetCk
import Derived.Test.YtnpfmboolbhpaaaZFleetL7
import Derived.Test.YtnpfmboolbhpaaaZClashE
import Derived.Test.YtnpfmboolbhpaaaZFleetSP
namespace Go.Proofs.Ytnpfmboolbhpaaa
open Go.RowKit Go.Lib

set_option maxRecDepth 100000 in
set_option maxHeartbeats 8000000 in
theorem fleetKeeps_walk (w : World) (v0 : Value) (l0 : List (Int × Int)) (h0 : RdL w (fun _ => True) v0 l0) (v1 : Value) (l1 : List Dob) (h1 : RdL w (fun _ => True) v1 l1) :
    Calls Try.prog 12 #[v0, v1] w fun e w' => e = .returned (.bool true) ∧ Below w.heap.size w w' := by
  obtain ⟨A0, c0, hv0, hn0, hm0⟩ := h0.form
  obtain ⟨A1, c1, hv1, hn1, hm1⟩ := h1.form
  subst hv0 hv1
  unfold maxLen at hm0 hm1
  go_enter Try.func12, Try.ntmps12
  go_wp2_with fail
  with_reducible refine (alive7 w).mono ?_
  rintro e w1 ⟨rfl, hx1⟩
  obtain ⟨fx, lax, ax, bx, hpl⟩ : ∃ f la a b, Fl.play l0 l1 = (f, la, (a, b)) := ⟨_, _, _, _, rfl⟩
  have HP := Lib.hid (play_any w1 _ _ _ _ l0 l1 (h0.below hx1) (h1.below hx1))
  rw [hpl] at HP
  have HPLx := Lib.hid hpl
  clear hpl
  go_wp2_with fail
  refine HP.out.mono ?_
  rintro e w2 ⟨vs, vb, va, rfl, qsx, qbx, qax, hxpx⟩
  simp only at qsx qbx qax ⊢
  replace qsx := qsx.weak (F' := fun b => b < w2.heap.size) fun b hb _ => hb
  replace qbx := qbx.weak (F' := fun b => b < w2.heap.size) fun b hb _ => hb
  replace qax := qax.weak (F' := fun b => b < w2.heap.size) fun b hb _ => hb
  obtain ⟨Asx, csx, hvs, hlsx, hcsx⟩ := qsx.form
  obtain ⟨Abx, cbx, hvb, hlbx, hcbx⟩ := qbx.form
  obtain ⟨Aax, cax, hva, hlax, hcax⟩ := qax.form
  unfold maxLen at hcsx hcbx hcax
  subst hvs hvb hva
  clear HP
  go_upto_region 4 with (fail)
  have hxqx := ((Below.refl w2.heap.size w2).alloc (Nat.le_refl _) (.cells #[.slice Asx fx.sh.length csx, .slice Abx fx.book.length cbx] 35)).alloc (by simp) (.cells #[.int .i64 (ax : Int), .int .i64 (bx : Int)] 39)
  have hbFx : Blk ((w2.alloc (.cells #[.slice Asx fx.sh.length csx, .slice Abx fx.book.length cbx] 35)).alloc (.cells #[.int .i64 (ax : Int), .int .i64 (bx : Int)] 39)) w2.heap.size 35 #[.slice Asx fx.sh.length csx, .slice Abx fx.book.length cbx] := Blk.alloc (heap_alloc_new w2 _) _
  have hbWx : Blk ((w2.alloc (.cells #[.slice Asx fx.sh.length csx, .slice Abx fx.book.length cbx] 35)).alloc (.cells #[.int .i64 (ax : Int), .int .i64 (bx : Int)] 39)) (w2.heap.size + 1) 39 #[.int .i64 (ax : Int), .int .i64 (bx : Int)] := by
    have := heap_alloc_new (w2.alloc (.cells #[.slice Asx fx.sh.length csx, .slice Abx fx.book.length cbx] 35)) (.cells #[.int .i64 (ax : Int), .int .i64 (bx : Int)] 39)
    rw [World.size_alloc] at this
    exact this
  generalize ((w2.alloc (.cells #[.slice Asx fx.sh.length csx, .slice Abx fx.book.length cbx] 35)).alloc (.cells #[.int .i64 (ax : Int), .int .i64 (bx : Int)] 39)) = w3 at *
  have hxsx := hxpx.trans (hxqx.mono hxpx.size)
  have hxxB := hx1.trans (hxsx.mono hx1.size)
  replace qsx := qsx.below hxqx
  replace qbx := qbx.below hxqx
  replace qax := qax.below hxqx
  have hgwx : w1.heap.size ≤ w2.heap.size := hxpx.size
  clear hxpx hxqx
  generalize w2.heap.size = gx at *
  have e1 : w3.cell? ⟨gx + 1, 0, none⟩ = some (.int .i64 (ax : Int)) := hbWx.cell 0
  by_cases hax : ax = 0
  · have hneX : ((ax : Int) != 0) = false := by rw [bne_eq_false_iff_eq]; omega
    have hpl0 : Fl.play l0 l1 = (fx, lax, (0, bx)) := by rw [HPLx.out, hax]
    obtain ⟨hI, -, px, -, h120⟩ := Fl.play_ok hpl0
    have HPL0 := Lib.hid hpl0
    have hlx : Hid (lax.length = l1.length) := Lib.hid (by rw [px, Fl.length_run])
    have h03 := h0.below hxxB
    have h13 := h1.below hxxB
    have hgx : gx + 1 < w3.heap.size := hbWx.lt
    clear px hpl0 hax hbWx
    go_wp2_with fail
    go_loopg [34] l1.length (fun m i wr => ∃ j : Nat, j + m = l1.length ∧ i = .int .i64 (j : Int) ∧ Below w3.heap.size w3 wr)
    case atStart => exact ⟨0, by omega, rfl, Below.refl _ _⟩
    case round =>
      obtain ⟨j, hj, rfl, hx⟩ := hrel
      have hxr := hxxB.trans (hx.mono hxxB.size)
      by_cases hlt : j < l1.length
      · have hlt2 : j < lax.length := by have := hlx.out; omega
        obtain ⟨g2, o2, k2, Ae, ce, hA2, _, hg2, d0, d1, d2, d3, d4, d5, d6, hde⟩ := dob_at (h13.below hx) hlt
        obtain ⟨g1, o1, k1, u1, hA1, _, hg1, a0, _⟩ := ans_at (qax.below hx) hlt2
        injection hA2 with hA2 _ hA3
        subst hA2 hA3
        injection hA1 with hA1 _ hA3
        subst hA1 hA3
        have hltB : (j : Int) < (l1.length : Int) := by omega
        have hlt2B : (j : Int) < (lax.length : Int) := by omega
        have hj0 : (0 : Int) ≤ (j : Int) := by omega
        have HT : Hid (∀ (g : Flt) (lb : List Ans) (a2 b2 : Nat), Fl.play l0 (l1.take j) = (g, lb, (a2, b2)) → l1[j].kind = 4 → lax[j].err = 0 → _) := Lib.hid (fun _ _ _ _ h2 h4 h0 => Fl.keeps HPL0.out h2 (List.getElem?_eq_getElem hlt) (List.getElem?_eq_getElem hlt2) h4 h0)
        unfold bv at d6
        generalize l1[j] = d at *
        generalize lax[j].err = re at *
        go_upto_region 9 with (fail)
        have hxb := (Below.refl wr.heap.size wr).alloc (Nat.le_refl _) (.cells #[.int .i64 d.kind, .int .i64 d.n, .int .i64 d.time, .slice Ae d.entry.length ce, .int .i64 d.seg, .int .i64 d.pos, .int .u8 (d.turn.toNat : Int)] 55)
        have hbD : Blk (wr.alloc (.cells #[.int .i64 d.kind, .int .i64 d.n, .int .i64 d.time, .slice Ae d.entry.length ce, .int .i64 d.seg, .int .i64 d.pos, .int .u8 (d.turn.toNat : Int)] 55)) wr.heap.size 55 #[.int .i64 d.kind, .int .i64 d.n, .int .i64 d.time, .slice Ae d.entry.length ce, .int .i64 d.seg, .int .i64 d.pos, .int .u8 (d.turn.toNat : Int)] := heap_alloc_new wr _
        generalize wr.alloc (.cells #[.int .i64 d.kind, .int .i64 d.n, .int .i64 d.time, .slice Ae d.entry.length ce, .int .i64 d.seg, .int .i64 d.pos, .int .u8 (d.turn.toNat : Int)] 55) = w6 at *
        have x0 : w6.cell? ⟨wr.heap.size, 0, none⟩ = some (.int .i64 d.kind) := hbD.cell 0
        have hx6 := hx.trans (hxb.mono hx.size)
        have hx06 := hxxB.trans (hx6.mono hxxB.size)
        have q0 : w6.cell? ⟨g1, o1 + j * 5, none⟩ = some (.int .i64 (re : Int)) := (hxb.cell (p := ⟨g1, _, none⟩) hg1).trans a0
        generalize wr.heap.size = gd at *
        clear a0 d0 d1 d2 d3 d4 d5 d6 hde hx hxb hxr
        by_cases k4 : d.kind = 4
        · have kB : (d.kind != 4) = false := by rw [bne_eq_false_iff_eq]; exact k4
          by_cases e0 : re = 0
          · have eB : ((re : Int) != 0) = false := by rw [bne_eq_false_iff_eq]; omega
            have HT2 := Lib.hid (fun (g : Flt) (lb : List Ans) (a2 b2 : Nat) (h2 : Fl.play l0 (l1.take j) = (g, lb, (a2, b2))) => HT.out g lb a2 b2 h2 k4 e0)
            have hjc : j ≤ c1 := by omega
            have hjI : (j : Int) ≤ (c1 : Int) := by omega
            have hjl : j ≤ l1.length := by omega
            clear HT k4 e0
            obtain ⟨fq, laq, aq, bq, hpl⟩ : ∃ f la a b, Fl.play l0 (l1.take j) = (f, la, (a, b)) := ⟨_, _, _, _, rfl⟩
            have HP := Lib.hid (play_any w6 _ _ _ _ l0 (l1.take j) (h03.below hx6) ((h13.below hx6).first j hjl))
            rw [hpl] at HP
            have HPLq := Lib.hid hpl
            clear hpl
            go_wp2_with fail
            refine HP.out.mono ?_
            rintro e w8 ⟨vs, vb, va, rfl, qsq, qbq, qaq, hxpq⟩
            simp only at qsq qbq qaq ⊢
            replace qsq := qsq.weak (F' := fun b => b < w8.heap.size) fun b hb _ => hb
            replace qbq := qbq.weak (F' := fun b => b < w8.heap.size) fun b hb _ => hb
            replace qaq := qaq.weak (F' := fun b => b < w8.heap.size) fun b hb _ => hb
            obtain ⟨Asq, csq, hvs, hlsq, hcsq⟩ := qsq.form
            obtain ⟨Abq, cbq, hvb, hlbq, hcbq⟩ := qbq.form
            obtain ⟨Aaq, caq, hva, hlaq, hcaq⟩ := qaq.form
            unfold maxLen at hcsq hcbq hcaq
            subst hvs hvb hva
            clear HP
            go_upto_region 11 with (fail)
            have hxqq := ((Below.refl w8.heap.size w8).alloc (Nat.le_refl _) (.cells #[.slice Asq fq.sh.length csq, .slice Abq fq.book.length cbq] 35)).alloc (by simp) (.cells #[.int .i64 (aq : Int), .int .i64 (bq : Int)] 39)
            have hbFq : Blk ((w8.alloc (.cells #[.slice Asq fq.sh.length csq, .slice Abq fq.book.length cbq] 35)).alloc (.cells #[.int .i64 (aq : Int), .int .i64 (bq : Int)] 39)) w8.heap.size 35 #[.slice Asq fq.sh.length csq, .slice Abq fq.book.length cbq] := Blk.alloc (heap_alloc_new w8 _) _
            have hbWq : Blk ((w8.alloc (.cells #[.slice Asq fq.sh.length csq, .slice Abq fq.book.length cbq] 35)).alloc (.cells #[.int .i64 (aq : Int), .int .i64 (bq : Int)] 39)) (w8.heap.size + 1) 39 #[.int .i64 (aq : Int), .int .i64 (bq : Int)] := by
              have := heap_alloc_new (w8.alloc (.cells #[.slice Asq fq.sh.length csq, .slice Abq fq.book.length cbq] 35)) (.cells #[.int .i64 (aq : Int), .int .i64 (bq : Int)] 39)
              rw [World.size_alloc] at this
              exact this
            generalize ((w8.alloc (.cells #[.slice Asq fq.sh.length csq, .slice Abq fq.book.length cbq] 35)).alloc (.cells #[.int .i64 (aq : Int), .int .i64 (bq : Int)] 39)) = w9 at *
            have hxsq := hxpq.trans (hxqq.mono hxpq.size)
            have hxqB := hx06.trans (hxsq.mono hx06.size)
            replace qsq := qsq.below hxqq
            replace qbq := qbq.below hxqq
            replace qaq := qaq.below hxqq
            have hgwq : w6.heap.size ≤ w8.heap.size := hxpq.size
            clear hxpq hxqq
            generalize w8.heap.size = gq at *
            have HK := HT2.out _ _ _ _ HPLq.out
            obtain ⟨k, hk, hk', hdn, hents, hsh⟩ := HK
            have hx39 := hx6.trans (hxsq.mono hx6.size)
            have hbD9 := hbD.below hxsq hbD.lt
            have hbF9 := hbFx.below hx39 hbFx.lt
            have qs9 := qsx.below hx39
            have qb9 := qbx.below hx39
            obtain ⟨gS, oS, cS, y1, y2, y3, hA1, _, hgS, hcS, hy1, _⟩ := shd_at qsq hk
            injection hA1 with hA1 hA2 hA3
            clear hA2
            subst hA1 hA3
            obtain ⟨Aw, cw, hyw, hnw, hmw, _⟩ := hy1.shape
            subst hyw
            unfold maxLen at hmw
            have s3 : w9.cell? ⟨gS, oS + k * 7 + 3, none⟩ = some (.slice Aw fq.sh[k].ents.length cw) := hcS 3 _ rfl
            have x1 : w9.cell? ⟨gd, 1, none⟩ = some (.int .i64 (k : Int)) := by rw [← hdn]; exact hbD9.cell 1
            have t0 : w9.cell? ⟨gq, 0, none⟩ = some (.slice (some ⟨gS, oS, none⟩) fq.sh.length csq) := hbFq.cell 0
            have hkB : (k : Int) < (fq.sh.length : Int) := by omega
            have hk0 : (0 : Int) ≤ (k : Int) := by omega
            have hxD : Blk w9 gd 55 #[.int .i64 d.kind, .int .i64 (k : Int), .int .i64 d.time, .slice Ae d.entry.length ce, .int .i64 d.seg, .int .i64 d.pos, .int .u8 (d.turn.toNat : Int)] := by rw [← hdn]; exact hbD9
            obtain ⟨gT, oT, cT, z1, z2, z3, hA1, _, hgT, hcT, hz1, _⟩ := shd_at qs9 hk'
            injection hA1 with hA1 hA2 hA3
            clear hA2
            subst hA1 hA3
            obtain ⟨Az, cz, hzw, _, _, _⟩ := hz1.shape
            subst hzw
            rw [hents] at hcT
            have t3 : w9.cell? ⟨gT, oT + k * 7 + 3, none⟩ = some (.slice Az 0 cz) := hcT 3 _ rfl
            have hkB2 : (k : Int) < (fx.sh.length : Int) := by omega
            have HSH := Lib.hid hsh
            clear hsh hents hdn HT2 hbD hbD9 x0 q0 hcS hcT hz1
            have hfq : ∀ z, Below w9.heap.size w9 z → BList z _ (.slice Aw fq.sh[k].ents.length cw) fq.sh[k].ents := fun z hz => hy1.below hz
            clear hy1
            generalize fq.sh[k].ents = wa at *
            generalize fx.sh[k] = sx at *
            generalize gk = gk0 at *
            generalize wr = wr0 at *
            go_wp2_with fail
            clear s3 t0 x1
            go_loopg [68] wa.length (fun m i wr => ∃ n : Nat, n + m = wa.length ∧ i = .int .i64 (n : Int) ∧ Below w9.heap.size w9 wr)
            case atStart => exact ⟨0, by omega, rfl, Below.refl _ _⟩
            case round =>
              obtain ⟨n, hn, rfl, hxn⟩ := hrel
              have hx3n := hx39.trans (hxn.mono hx39.size)
              have hx0n := hxxB.trans (hx3n.mono hxxB.size)
              have b0 : wr.cell? ⟨gx, 0, none⟩ = some (.slice (some ⟨gT, oT, none⟩) fx.sh.length csx) := (hbF9.below hxn hbF9.lt).cell 0
              have b1 : wr.cell? ⟨gx, 1, none⟩ = some (.slice Abx fx.book.length cbx) := (hbF9.below hxn hbF9.lt).cell 1
              have x1 : wr.cell? ⟨gd, 1, none⟩ = some (.int .i64 (k : Int)) := (hxD.below hxn hxD.lt).cell 1
              by_cases hlw : n < wa.length
              · obtain ⟨gW, oW, uW, hAw, hcW, _, hgW, huW⟩ := (hfq wr hxn).at_ hlw
                subst hAw
                obtain ⟨sh, hsc, hck⟩ := HSH.out n hlw
                have HCK := Lib.hid hck
                have HSW := Lib.hid (show_own wr _ _ _ _ fx (k : Int) (n : Int) (qs9.below hxn) (qb9.below hxn) hI)
                rw [hsc] at HSW
                clear hsc hck
                have hnB : (n : Int) < (wa.length : Int) := by omega
                have hn0 : (0 : Int) ≤ (n : Int) := by omega
                go_wp2_with fail
                with_reducible refine HSW.out.mono ?_
                rintro e w10 ⟨cs8, rfl, hrd, hx10⟩
                simp only at hrd ⊢
                obtain ⟨AE, cE, AP, cP, AR, cR, AB, cB, AH, cH, hcs8, hE, hP, _⟩ := shw_open hrd
                subst hcs8
                go_upto_region 16 with (fail)
                have hxs := hx10.alloc hx10.size (.cells #[.slice AE sh.entry.length cE, .int .i64 sh.place, .int .i64 sh.shard, .slice AP sh.path.length cP, .int .i64 sh.rcd.sh, .int .i64 sh.rcd.fr, .int .i64 sh.rcd.to, .int .i64 sh.rcd.sz, .slice AR sh.rcd.root.length cR, .int .i64 sh.row, .slice AB sh.bpath.length cB, .int .i64 sh.hsz, .slice AH sh.hroot.length cH] 31)
                have hbS : Blk (w10.alloc (.cells #[.slice AE sh.entry.length cE, .int .i64 sh.place, .int .i64 sh.shard, .slice AP sh.path.length cP, .int .i64 sh.rcd.sh, .int .i64 sh.rcd.fr, .int .i64 sh.rcd.to, .int .i64 sh.rcd.sz, .slice AR sh.rcd.root.length cR, .int .i64 sh.row, .slice AB sh.bpath.length cB, .int .i64 sh.hsz, .slice AH sh.hroot.length cH] 31)) w10.heap.size 31 #[.slice AE sh.entry.length cE, .int .i64 sh.place, .int .i64 sh.shard, .slice AP sh.path.length cP, .int .i64 sh.rcd.sh, .int .i64 sh.rcd.fr, .int .i64 sh.rcd.to, .int .i64 sh.rcd.sz, .slice AR sh.rcd.root.length cR, .int .i64 sh.row, .slice AB sh.bpath.length cB, .int .i64 sh.hsz, .slice AH sh.hroot.length cH] := heap_alloc_new w10 _
                have hxb2 := (Below.refl w10.heap.size w10).alloc (Nat.le_refl _) (.cells #[.slice AE sh.entry.length cE, .int .i64 sh.place, .int .i64 sh.shard, .slice AP sh.path.length cP, .int .i64 sh.rcd.sh, .int .i64 sh.rcd.fr, .int .i64 sh.rcd.to, .int .i64 sh.rcd.sz, .slice AR sh.rcd.root.length cR, .int .i64 sh.row, .slice AB sh.bpath.length cB, .int .i64 sh.hsz, .slice AH sh.hroot.length cH] 31)
                obtain ⟨Au, cu, hUW⟩ := huW.form
                subst hUW
                replace hE := hE.below hxb2
                replace hP := hP.below hxb2
                have hW1 := (huW.below hx10).below hxb2
                have hcW1 : (w10.alloc (.cells #[.slice AE sh.entry.length cE, .int .i64 sh.place, .int .i64 sh.shard, .slice AP sh.path.length cP, .int .i64 sh.rcd.sh, .int .i64 sh.rcd.fr, .int .i64 sh.rcd.to, .int .i64 sh.rcd.sz, .slice AR sh.rcd.root.length cR, .int .i64 sh.row, .slice AB sh.bpath.length cB, .int .i64 sh.hsz, .slice AH sh.hroot.length cH] 31)).cell? ⟨gW, oW + n, none⟩ = some (.slice Au wa[n].length cu) := (hxs.cell (p := ⟨gW, _, none⟩) hgW).trans hcW
                have hxns := hxn.trans (hxs.mono hxn.size)
                have hwa1 := hfq _ hxns
                clear hrd hxb2 hxs hx10 huW hcW x1 b0 b1
                generalize w10.alloc (.cells #[.slice AE sh.entry.length cE, .int .i64 sh.place, .int .i64 sh.shard, .slice AP sh.path.length cP, .int .i64 sh.rcd.sh, .int .i64 sh.rcd.fr, .int .i64 sh.rcd.to, .int .i64 sh.rcd.sz, .slice AR sh.rcd.root.length cR, .int .i64 sh.row, .slice AB sh.bpath.length cB, .int .i64 sh.hsz, .slice AH sh.hroot.length cH] 31) = w11 at *
                generalize w10.heap.size = gs at *
                have c0 : w11.cell? ⟨gs, 0, none⟩ = some (.slice AE sh.entry.length cE) := hbS.cell 0
                have c3 : w11.cell? ⟨gs, 3, none⟩ = some (.slice AP sh.path.length cP) := hbS.cell 3
                have HBS := Lib.hid hbS
                clear hbS
                by_cases he : sh.entry = wa[n]
                · have hsame := fun n' => same_any (w11.drewN n') _ _ _ _ _ _ (hE.drewN n') (hW1.drewN n')
                  have hsB : (sh.entry == wa[n]) = true := by rw [he]; simp
                  simp only [hsB] at hsame
                  have HSM := Lib.hid hsame
                  clear hsame hsB he
                  generalize wa[n] = wn at *
                  go_wp2_with fail
                  go_quiet ((go_at_call 27; exact Calls.quiet_of (HSM.out _)))
                  go_wp2_with fail
                  go_roundg (gk - 1)
                  case measure => omega
                  case rel => exact ⟨n + 1, by omega, by go_num, below_drewN hxns nq⟩
                · have hsame := fun n' => same_any (w11.drewN n') _ _ _ _ _ _ (hE.drewN n') (hW1.drewN n')
                  have hsB : (sh.entry == wa[n]) = false := by rw [beq_eq_false_iff_ne]; exact he
                  simp only [hsB] at hsame
                  have HSM := Lib.hid hsame
                  obtain ⟨q, hq, hq1, hq2, hq3, hq4⟩ := HCK.out he
                  have HQ := Lib.hid hq
                  have HQ1 := Lib.hid hq1
                  have HQ2 := Lib.hid hq2
                  clear hsame hsB he hq hq1 hq2
                  generalize wa[n] = wn at *
                  go_wp2_with fail
                  go_quiet ((go_at_call 27; exact Calls.quiet_of (HSM.out _)))
                  go_upto_region 19 with (fail)
                  have hx12 := below_drewN hxns nq
                  have hE2 := hE.drewN nq
                  have hP2 := BList.drewN hP nq
                  have hwa2 := BList.drewN hwa1 nq
                  have hbS2 : Blk (w11.drewN nq) gs 31 #[.slice AE sh.entry.length cE, .int .i64 sh.place, .int .i64 sh.shard, .slice AP sh.path.length cP, .int .i64 sh.rcd.sh, .int .i64 sh.rcd.fr, .int .i64 sh.rcd.to, .int .i64 sh.rcd.sz, .slice AR sh.rcd.root.length cR, .int .i64 sh.row, .slice AB sh.bpath.length cB, .int .i64 sh.hsz, .slice AH sh.hroot.length cH] := HBS.out
                  clear c0 c3 hE hP hwa1 hW1 hcW1 hxns
                  generalize w11.drewN nq = w12 at *
                  have c0 : w12.cell? ⟨gs, 0, none⟩ = some (.slice AE sh.entry.length cE) := hbS2.cell 0
                  have c3 : w12.cell? ⟨gs, 3, none⟩ = some (.slice AP sh.path.length cP) := hbS2.cell 3
                  clear hbS2
                  have HC := Lib.hid (standsC_any w12 _ _ _ _ _ _ wa sh.entry (n : Int) sh.path hwa2 hE2 hP2)
                  rw [HQ.out] at HC
                  go_wp2_with fail
                  with_reducible refine HC.out.mono ?_
                  rintro e w13 ⟨va, vc, rfl, ho1, ho2, hx13⟩
                  simp only [Option.isSome_some] at *
                  have hx013 := hx12.trans (hx13.mono hx12.size)
                  have hs1 : Bytes w13 _ va q.1 := OwnB.bytes ho1
                  have hs2 : Bytes w13 _ vc q.2 := OwnB.bytes ho2
                  have HS1 := Lib.hid (same_any w13 _ _ _ _ q.1 q.2 hs1 hs2)
                  rw [show (q.1 == q.2) = false by rw [beq_eq_false_iff_ne]; exact HQ1.out] at HS1
                  go_wp2_with fail
                  with_reducible refine HS1.out.mono ?_
                  rintro e w14 ⟨rfl, n14, hw14⟩
                  have hx14 := below_drewN (Below.refl w13.heap.size w13) n14
                  rw [← hw14] at hx14
                  clear hw14
                  have hs14 := hs1.below hx14
                  have hs24 := hs2.below hx14
                  go_wp2_with fail
                  with_reducible refine (sum_any w14 _ va q.1 hs14 (by omega)).mono ?_
                  rintro e w15 ⟨v15, rfl, ho15, hx15⟩
                  have hs25 := hs24.below hx15
                  have hd15 := OwnB.bytes ho15
                  go_wp2_with fail
                  with_reducible refine (sum_any w15 _ vc q.2 hs25 (by omega)).mono ?_
                  rintro e w16 ⟨v16, rfl, ho16, hx16⟩
                  have hd16 := OwnB.bytes ho16
                  have HS2 := Lib.hid (same_any w16 _ _ _ _ (Sha.sha256 q.1) (Sha.sha256 q.2) (hd15.below hx16) hd16)
                  rw [show (Sha.sha256 q.1 == Sha.sha256 q.2) = true by rw [HQ2.out]; simp] at HS2
                  go_wp2_with fail
                  with_reducible refine HS2.out.mono ?_
                  rintro e w17 ⟨rfl, n17, hw17⟩
                  have hx17 := below_drewN (Below.refl w16.heap.size w16) n17
                  rw [← hw17] at hx17
                  clear hw17
                  have hx1314 := hx14.trans (hx15.mono hx14.size)
                  have hx1316 := hx1314.trans (hx16.mono hx1314.size)
                  have hx1317 := hx1316.trans (hx17.mono hx1316.size)
                  have hx017 := hx013.trans (hx1317.mono hx013.size)
                  go_wp2_with fail
                  go_roundg (gk - 1)
                  case measure => omega
                  case rel => exact ⟨n + 1, by omega, by go_num, hx017⟩
              · have hltB : decide ((n : Int) < (wa.length : Int)) = false := decide_eq_false (by omega)
                have t3r : wr.cell? ⟨gT, oT + k * 7 + 3, none⟩ = some (.slice Az 0 cz) := (hxn.cell (p := ⟨gT, _, none⟩) hgT).trans t3
                clear t3
                go_wp2_with fail
                go_roundg (gk0 - 1)
                case measure => omega
                case rel => exact ⟨j + 1, by omega, by go_num, hx3n⟩
          · have eB : ((re : Int) != 0) = true := by rw [bne_iff_ne]; omega
            clear HT e0
            go_wp2_with fail
            go_roundg (gk - 1)
            case measure => omega
            case rel => exact ⟨j + 1, by omega, by go_num, hx6⟩
        · have kB : (d.kind != 4) = true := by rw [bne_iff_ne]; exact k4
          clear HT k4
          go_wp2_with fail
          go_roundg (gk - 1)
          case measure => omega
          case rel => exact ⟨j + 1, by omega, by go_num, hx6⟩
      · have hltB : decide ((j : Int) < (l1.length : Int)) = false := decide_eq_false (by omega)
        go_wp2_with fail
        go_ret
        exact ⟨rfl, hxr⟩
  · have hneX : ((ax : Int) != 0) = true := by rw [bne_iff_ne]; omega
    go_wp2_with fail
    go_ret
    exact ⟨rfl, hxxB⟩
end Go.Proofs.Ytnpfmboolbhpaaa
