/-
  THE WALK of FleetRefused. Conditions: what comes in is read.
-/
import Derived.Test.YtnpfmboolbhpaaaZRepr
import Derived.Test.YtnpfmboolbhpaaaZFleetL7
import Derived.Test.YtnpfmboolbhpaaaZGw
namespace Go.Proofs.Ytnpfmboolbhpaaa
open Go.RowKit Go.Lib

set_option maxRecDepth 100000 in
set_option maxHeartbeats 8000000 in
theorem fleetRefused_walk (w : World) (v0 : Value) (l0 : List (Int × Int)) (h0 : RdL w (fun _ => True) v0 l0) (v1 : Value) (l1 : List Dob) (h1 : RdL w (fun _ => True) v1 l1) :
    Calls Try.prog 7 #[v0, v1] w fun e w' => e = .returned (.bool true) ∧ Below w.heap.size w w' := by
  obtain ⟨A0, c0, hv0, hn0, hm0⟩ := h0.form
  obtain ⟨A1, c1, hv1, hn1, hm1⟩ := h1.form
  subst hv0 hv1
  unfold maxLen at hm0 hm1
  go_enter Try.func7, Try.ntmps7
  go_wp2_with fail
  with_reducible refine (alive7 w).mono ?_
  rintro e w1 ⟨rfl, hx1⟩
  obtain ⟨fx, lax, ax, bx, hpl⟩ : ∃ f la a b, Fl.play l0 l1 = (f, la, (a, b)) := ⟨_, _, _, _, rfl⟩
  have HP := Lib.hid (play_any w1 _ _ _ _ l0 l1 (h0.below hx1) (h1.below hx1))
  rw [hpl] at HP
  have HPLx := Lib.hid hpl
  clear hpl
  go_wp2_with fail
  refine HP.out.mono ?_
  rintro e w2 ⟨vs, vb, va, rfl, qsx, qbx, qax, hxpx⟩
  simp only at qsx qbx qax ⊢
  replace qsx := qsx.weak (F' := fun b => b < w2.heap.size) fun b hb _ => hb
  replace qbx := qbx.weak (F' := fun b => b < w2.heap.size) fun b hb _ => hb
  replace qax := qax.weak (F' := fun b => b < w2.heap.size) fun b hb _ => hb
  obtain ⟨Asx, csx, hvs, hlsx, hcsx⟩ := qsx.form
  obtain ⟨Abx, cbx, hvb, hlbx, hcbx⟩ := qbx.form
  obtain ⟨Aax, cax, hva, hlax, hcax⟩ := qax.form
  unfold maxLen at hcsx hcbx hcax
  subst hvs hvb hva
  clear HP
  go_upto_region 4 with (fail)
  have hxqx := ((Below.refl w2.heap.size w2).alloc (Nat.le_refl _) (.cells #[.slice Asx fx.sh.length csx, .slice Abx fx.book.length cbx] 35)).alloc (by simp) (.cells #[.int .i64 (ax : Int), .int .i64 (bx : Int)] 39)
  have hbFx : Blk ((w2.alloc (.cells #[.slice Asx fx.sh.length csx, .slice Abx fx.book.length cbx] 35)).alloc (.cells #[.int .i64 (ax : Int), .int .i64 (bx : Int)] 39)) w2.heap.size 35 #[.slice Asx fx.sh.length csx, .slice Abx fx.book.length cbx] := Blk.alloc (heap_alloc_new w2 _) _
  have hbWx : Blk ((w2.alloc (.cells #[.slice Asx fx.sh.length csx, .slice Abx fx.book.length cbx] 35)).alloc (.cells #[.int .i64 (ax : Int), .int .i64 (bx : Int)] 39)) (w2.heap.size + 1) 39 #[.int .i64 (ax : Int), .int .i64 (bx : Int)] := by
    have := heap_alloc_new (w2.alloc (.cells #[.slice Asx fx.sh.length csx, .slice Abx fx.book.length cbx] 35)) (.cells #[.int .i64 (ax : Int), .int .i64 (bx : Int)] 39)
    rw [World.size_alloc] at this
    exact this
  generalize ((w2.alloc (.cells #[.slice Asx fx.sh.length csx, .slice Abx fx.book.length cbx] 35)).alloc (.cells #[.int .i64 (ax : Int), .int .i64 (bx : Int)] 39)) = w3 at *
  have hxsx := hxpx.trans (hxqx.mono hxpx.size)
  have hxxB := hx1.trans (hxsx.mono hx1.size)
  replace qsx := qsx.below hxqx
  replace qbx := qbx.below hxqx
  replace qax := qax.below hxqx
  have hgwx : w1.heap.size ≤ w2.heap.size := hxpx.size
  clear hxpx hxqx
  generalize w2.heap.size = gx at *
  have e1 : w3.cell? ⟨gx + 1, 0, none⟩ = some (.int .i64 (ax : Int)) := hbWx.cell 0
  by_cases hax : ax = 0
  · have hneX : ((ax : Int) != 0) = false := by rw [bne_eq_false_iff_eq]; omega
    have hpl0 : Fl.play l0 l1 = (fx, lax, (0, bx)) := by rw [HPLx.out, hax]
    obtain ⟨-, -, px, -, h120⟩ := Fl.play_ok hpl0
    obtain ⟨laq, hq1, hq2⟩ := Fl.play_good hpl0
    have HQ1 := Lib.hid hq1
    have hlx : Hid (lax.length = l1.length) := Lib.hid (by rw [px, Fl.length_run])
    obtain ⟨i0, hi, hz0, hz1, hz2⟩ := info_parts info_dob
    have hd3 : RdL w3 (fun b => b < w3.heap.size) (.slice A1 l1.length c1) l1 := (h1.below hxxB).weak fun b hb _ => hb
    have h03 := h0.below hxxB
    have hgx : gx + 1 < w3.heap.size := hbWx.lt
    clear px hpl0 hq1 hax
    go_wp2_with fail
    go_loopg [8, 28] l1.length (fun m v i wr => ∃ j : Nat, j + m = l1.length ∧ i = .int .i64 (j : Int) ∧ ∃ L : List Dob, Hid (L = Fl.good (l1.take j) (lax.take j)) ∧ L.length ≤ j ∧ OwnR wr w3.heap.size 55 (fun b => b < w3.heap.size) v L ∧ Below w3.heap.size w3 wr)
    case atStart => exact ⟨0, by omega, rfl, [], Lib.hid (by simp [Fl.good]), Nat.le_refl _, OwnR.nil_ _ _ _ _ _, Below.refl _ _⟩
    case round =>
      obtain ⟨j, hj, rfl, L, HL, hLj, hO, hx⟩ := hrel
      have hBr : w3.heap.size ≤ wr.heap.size := hx.size
      obtain ⟨Ag, cg, hvg, hlg, hcg⟩ := hO.shape
      subst hvg
      obtain ⟨xs, hown, hin⟩ := hO
      by_cases hlt : j < l1.length
      · have hlt2 : j < lax.length := by have := hlx.out; omega
        have HLN : Hid (Fl.good (l1.take (j + 1)) (lax.take (j + 1)) = L ++ if lax[j].err = 0 then [l1[j]] else []) := Lib.hid (by rw [List.take_succ_eq_append_getElem hlt, List.take_succ_eq_append_getElem hlt2, Fl.good_snoc _ _ _ _ (by rw [List.length_take, List.length_take]; omega), ← HL.out])
        obtain ⟨g1, o1, k1, u1, hA1, _, hg1, a0, _⟩ := ans_at (qax.below hx) hlt2
        obtain ⟨g2, o2, k2, Ae, ce, hA2, hg2, _, d0, d1, d2, d3, d4, d5, d6, hde⟩ := dob_at (hd3.below hx) hlt
        injection hA1 with hA1 _ hA3
        subst hA1 hA3
        injection hA2 with hA2 _ hA3
        subst hA2 hA3
        have hltB : (j : Int) < (l1.length : Int) := by omega
        have hlt2B : (j : Int) < (lax.length : Int) := by omega
        have hj0 : (0 : Int) ≤ (j : Int) := by omega
        unfold bv at d6
        generalize l1[j] = d at *
        generalize lax[j].err = re at *
        by_cases he : re = 0
        · have heB : ((re : Int) == 0) = true := by rw [beq_iff_eq]; omega
          have HL2 : Hid (L ++ [d] = Fl.good (l1.take (j + 1)) (lax.take (j + 1))) := Lib.hid (by rw [HLN.out, if_pos he])
          clear he
          have hsrc : SlAt (wr.alloc (.cells #[.int .i64 d.kind, .int .i64 d.n, .int .i64 d.time, .slice Ae d.entry.length ce, .int .i64 d.seg, .int .i64 d.pos, .int .u8 (d.turn.toNat : Int)] 55)) (fun b => b = wr.heap.size) 7 (.slice (some ⟨wr.heap.size, 0, none⟩) 1 1) 1 [.int .i64 d.kind, .int .i64 d.n, .int .i64 d.time, .slice Ae d.entry.length ce, .int .i64 d.seg, .int .i64 d.pos, .int .u8 (d.turn.toNat : Int)] := SlAt.newK wr _ [_, _, _, _, _, _, _] 7 rfl
          have hownA := hown.alloc (.cells #[.int .i64 d.kind, .int .i64 d.n, .int .i64 d.time, .slice Ae d.entry.length ce, .int .i64 d.seg, .int .i64 d.pos, .int .u8 (d.turn.toNat : Int)] 55)
          have hxA := hx.alloc hBr (.cells #[.int .i64 d.kind, .int .i64 d.n, .int .i64 d.time, .slice Ae d.entry.length ce, .int .i64 d.seg, .int .i64 d.pos, .int .u8 (d.turn.toNat : Int)] 55)
          have hBA : w3.heap.size ≤ (wr.alloc (.cells #[.int .i64 d.kind, .int .i64 d.n, .int .i64 d.time, .slice Ae d.entry.length ce, .int .i64 d.seg, .int .i64 d.pos, .int .u8 (d.turn.toNat : Int)] 55)).heap.size := by rw [World.size_alloc]; omega
          have hxA' : Below w3.heap.size wr (wr.alloc (.cells #[.int .i64 d.kind, .int .i64 d.n, .int .i64 d.time, .slice Ae d.entry.length ce, .int .i64 d.seg, .int .i64 d.pos, .int .u8 (d.turn.toNat : Int)] 55)) := (Below.refl w3.heap.size wr).alloc hBr _
          go_wp2_with (at_builtin
                       refine wpList_append_Own _ (by rfl) (.tmp 37) (.tmp 42) 23 (by rfl) w3.heap.size 55 i0 _ 7 72 Try.underlying23 hi hz0 hz1 hz2 (by rfl) (by omega) (.slice Ag L.length cg) L.length xs (by rfl) hownA _ _ 1 [.int .i64 d.kind, .int .i64 d.n, .int .i64 d.time, .slice Ae d.entry.length ce, .int .i64 d.seg, .int .i64 d.pos, .int .u8 (d.turn.toNat : Int)] (by rfl) hsrc (by simp [Value.oneCell']) (by simp only [maxLen]; omega) (by omega) hBA ?_
                       intro v2 w2 hown2 hgr2 hat2
                       have hx2 : Below w3.heap.size w3 w2 := hxA.grown hgr2 hBA (fun k hk => (hownA.lt k hk).1)
                       have hx2' : Below w3.heap.size wr w2 := hxA'.grown hgr2 hBA (fun k hk => (hownA.lt k hk).1))
          go_roundg (gk - 1)
          case measure => omega
          case rel => exact ⟨j + 1, by omega, by go_num, L ++ [d], HL2, by simp; omega, dobs_snoc hin hown.1 hx2' hde hown2, hx2⟩
        · have heB : ((re : Int) == 0) = false := by rw [beq_eq_false_iff_ne]; omega
          have HL2 : Hid (L = Fl.good (l1.take (j + 1)) (lax.take (j + 1))) := Lib.hid (by rw [HLN.out, if_neg he, List.append_nil])
          clear he
          go_wp2_with fail
          go_roundg (gk - 1)
          case measure => omega
          case rel => exact ⟨j + 1, by omega, by go_num, L, HL2, by omega, ⟨xs, hown, hin⟩, hx⟩
      · have hltB : decide ((j : Int) < (l1.length : Int)) = false := decide_eq_false (by omega)
        have hLL : L = Fl.good l1 lax := by
          have h := HL.out
          rw [List.take_of_length_le (by omega), List.take_of_length_le (by have := hlx.out; omega)] at h
          exact h
        have HP := Lib.hid (play_any wr _ _ _ _ l0 L (h03.below hx) (OwnR.rd (F := fun _ => True) (OwnR.weak ⟨xs, hown, hin⟩ (fun _ _ _ => trivial)) (fun _ _ => trivial)))
        rw [hLL, HQ1.out, ← hLL] at HP
        clear hLL HL
        go_wp2_with fail
        refine HP.out.mono ?_
        rintro e w4 ⟨vs, vb, va, rfl, qsq, qbq, qaq, hx4⟩
        simp only at qsq qbq qaq ⊢
        obtain ⟨Asq, csq, hvs, hlsq, hcsq⟩ := qsq.form
        obtain ⟨Abq, cbq, hvb, hlbq, hcbq⟩ := qbq.form
        obtain ⟨Aaq, caq, hva, hlaq, hcaq⟩ := qaq.form
        unfold maxLen at hcsq hcbq hcaq
        subst hvs hvb hva
        clear HP
        have hx34 := hx.trans (hx4.mono hBr)
        have hbW4 := hbWx.below hx34 hbWx.lt
        have hbF4 := hbFx.below hx34 hbFx.lt
        have hbWA := hbW4.alloc (.cells #[.slice Asq fx.sh.length csq, .slice Abq fx.book.length cbq] 35)
        have hbFA := hbF4.alloc (.cells #[.slice Asq fx.sh.length csq, .slice Abq fx.book.length cbq] 35)
        have hbGA : Blk (w4.alloc (.cells #[.slice Asq fx.sh.length csq, .slice Abq fx.book.length cbq] 35)) w4.heap.size 35 #[.slice Asq fx.sh.length csq, .slice Abq fx.book.length cbq] := heap_alloc_new w4 _
        have z0 : w4.cell? ⟨gx + 1, 0, none⟩ = some (.int .i64 (ax : Int)) := hbW4.cell 0
        have z1 : w4.cell? ⟨gx + 1, 1, none⟩ = some (.int .i64 (bx : Int)) := hbW4.cell 1
        have y0 := hbW4.frozen 0
        have y1 := hbW4.frozen 1
        have z0A : (w4.alloc (.cells #[.slice Asq fx.sh.length csq, .slice Abq fx.book.length cbq] 35)).cell? ⟨gx + 1, 0, none⟩ = some (.int .i64 (ax : Int)) := hbWA.cell 0
        have z1A : (w4.alloc (.cells #[.slice Asq fx.sh.length csq, .slice Abq fx.book.length cbq] 35)).cell? ⟨gx + 1, 1, none⟩ = some (.int .i64 (bx : Int)) := hbWA.cell 1
        have y0A := hbWA.frozen 0
        have y1A := hbWA.frozen 1
        have hgx4 : gx + 1 < wr.heap.size := by have := hbWx.lt; omega
        have hBw4 : w3.heap.size ≤ w4.heap.size := by have := hx4.size; omega
        have hxA4 := hx34.alloc hBw4 (.cells #[.slice Asq fx.sh.length csq, .slice Abq fx.book.length cbq] 35)
        have hgx1 : w1.heap.size ≤ gx + 1 := by omega
        have hxx4 := (hx1.trans ((hxsx.trans (hxA4.mono hxsx.size)).mono hx1.size))
        go_upto_region 14 with (fail)
        have hxx5 := below_set2 hxx4 (g := gx + 1) (by have := hx1.size; omega) (.int .i64 0) (.int .i64 0)
        have hbW5 := hbWA.set2 (.int .i64 0) (.int .i64 0)
        have hbF5 := hbFA.far2 (g := gx + 1) (by omega) (.int .i64 0) (.int .i64 0)
        have hbG5 := hbGA.far2 (g := gx + 1) (by omega) (.int .i64 0) (.int .i64 0)
        have qsx5 := (((qsx.below hx34).alloc (.cells #[.slice Asq fx.sh.length csq, .slice Abq fx.book.length cbq] 35)).setCell (p := ⟨gx + 1, 0, none⟩) (show ¬ gx + 1 < gx by omega) (.int .i64 0)).setCell (p := ⟨gx + 1, 1, none⟩) (show ¬ gx + 1 < gx by omega) (.int .i64 0)
        have qbx5 := (((qbx.below hx34).alloc (.cells #[.slice Asq fx.sh.length csq, .slice Abq fx.book.length cbq] 35)).setCell (p := ⟨gx + 1, 0, none⟩) (show ¬ gx + 1 < gx by omega) (.int .i64 0)).setCell (p := ⟨gx + 1, 1, none⟩) (show ¬ gx + 1 < gx by omega) (.int .i64 0)
        have qsq5 := ((qsq.alloc (.cells #[.slice Asq fx.sh.length csq, .slice Abq fx.book.length cbq] 35)).setCell (p := ⟨gx + 1, 0, none⟩) (show ¬ wr.heap.size ≤ gx + 1 by omega) (.int .i64 0)).setCell (p := ⟨gx + 1, 1, none⟩) (show ¬ wr.heap.size ≤ gx + 1 by omega) (.int .i64 0)
        have qbq5 := ((qbq.alloc (.cells #[.slice Asq fx.sh.length csq, .slice Abq fx.book.length cbq] 35)).setCell (p := ⟨gx + 1, 0, none⟩) (show ¬ wr.heap.size ≤ gx + 1 by omega) (.int .i64 0)).setCell (p := ⟨gx + 1, 1, none⟩) (show ¬ wr.heap.size ≤ gx + 1 by omega) (.int .i64 0)
        have qaq5 := ((qaq.alloc (.cells #[.slice Asq fx.sh.length csq, .slice Abq fx.book.length cbq] 35)).setCell (p := ⟨gx + 1, 0, none⟩) (show ¬ wr.heap.size ≤ gx + 1 by omega) (.int .i64 0)).setCell (p := ⟨gx + 1, 1, none⟩) (show ¬ wr.heap.size ≤ gx + 1 by omega) (.int .i64 0)
        clear qsx qbx qsq qbq qaq qax hbWA hbFA hbGA hbW4 hbF4 hbWx hbFx z0 z1 y0 y1 z0A z1A y0A y1A e1
        generalize ((w4.alloc (.cells #[.slice Asq fx.sh.length csq, .slice Abq fx.book.length cbq] 35)).setCell ⟨gx + 1, 0, none⟩ (.int .i64 0)).setCell ⟨gx + 1, 1, none⟩ (.int .i64 0) = w5 at *
        generalize w4.heap.size = gq at *
        have HE := Lib.hid hq2
        clear hq2
        generalize gk = gk0 at *
        generalize wr = w9 at *
        go_wp2_with fail
        go_loopg [54] laq.length (fun m i wr => ∃ j : Nat, j + m = laq.length ∧ i = .int .i64 (j : Int) ∧ Below w5.heap.size w5 wr)
        case atStart => exact ⟨0, by omega, rfl, Below.refl _ _⟩
        case round =>
          obtain ⟨j, hj, rfl, hx⟩ := hrel
          have hxr := hxx5.trans (hx.mono hxx5.size)
          by_cases hlt : j < laq.length
          · obtain ⟨g1, o1, k1, u1, hA1, _, hg1, a0, a1, a2, a3, a4, hu1⟩ := ans_at (qaq5.below hx) hlt
            injection hA1 with hA1 _ hA3
            subst hA1 hA3
            rw [show (laq[j].err : Int) = 0 by rw [HE.out _ (List.getElem_mem hlt)]; rfl] at a0
            have hltB : (j : Int) < (laq.length : Int) := by omega
            have hj0 : (0 : Int) ≤ (j : Int) := by omega
            obtain ⟨U, cu, hU⟩ := hu1.form
            subst hU
            generalize laq[j] = r at *
            go_upto_region 17 with (fail)
            have hxb := (Below.refl wr.heap.size wr).alloc (Nat.le_refl _) (.cells #[.int .i64 0, .int .i64 r.sh, .int .i64 r.pl, .int .i64 r.sz, .slice U r.root.length cu] 51)
            have hbX : Blk (wr.alloc (.cells #[.int .i64 0, .int .i64 r.sh, .int .i64 r.pl, .int .i64 r.sz, .slice U r.root.length cu] 51)) wr.heap.size 51 #[.int .i64 0, .int .i64 r.sh, .int .i64 r.pl, .int .i64 r.sz, .slice U r.root.length cu] := heap_alloc_new wr _
            generalize wr.alloc (.cells #[.int .i64 0, .int .i64 r.sh, .int .i64 r.pl, .int .i64 r.sz, .slice U r.root.length cu] 51) = w6 at *
            have x0 : w6.cell? ⟨wr.heap.size, 0, none⟩ = some (.int .i64 0) := hbX.cell 0
            have hx56 := hx.trans (hxb.mono hx.size)
            go_wp2_with fail
            go_roundg (gk - 1)
            case measure => omega
            case rel => exact ⟨j + 1, by omega, by go_num, hx56⟩
          · have hltB : decide ((j : Int) < (laq.length : Int)) = false := decide_eq_false (by omega)
            have k0 : wr.cell? ⟨gx + 1, 0, none⟩ = some (.int .i64 0) := (hbW5.below hx hbW5.lt).cell 0
            have k1 : wr.cell? ⟨gx, 0, none⟩ = some (.slice Asx fx.sh.length csx) := (hbF5.below hx hbF5.lt).cell 0
            have k2 : wr.cell? ⟨gx, 1, none⟩ = some (.slice Abx fx.book.length cbx) := (hbF5.below hx hbF5.lt).cell 1
            have k3 : wr.cell? ⟨gq, 0, none⟩ = some (.slice Asq fx.sh.length csq) := (hbG5.below hx hbG5.lt).cell 0
            have k4 : wr.cell? ⟨gq, 1, none⟩ = some (.slice Abq fx.book.length cbq) := (hbG5.below hx hbG5.lt).cell 1
            have HSF := Lib.hid (sameFleet_yes wr _ _ _ _ _ _ _ _ fx (qsx5.below hx) (qsq5.below hx) (qbx5.below hx) (qbq5.below hx))
            clear hbW5 hbF5 hbG5 qsx5 qbx5 qsq5 qbq5 qaq5
            go_wp2_with fail
            refine HSF.out.mono ?_
            rintro e w7 ⟨rfl, hx7⟩
            go_wp2_with fail
            go_ret
            exact ⟨rfl, hxr.trans (hx7.mono hxr.size)⟩
  · have hneX : ((ax : Int) != 0) = true := by rw [bne_iff_ne]; omega
    go_wp2_with fail
    go_ret
    exact ⟨rfl, hxxB⟩
end Go.Proofs.Ytnpfmboolbhpaaa
