/-
  THE WALK of FleetApart. Conditions: what comes in is read.
-/
import Derived.Deep.Cut
import Derived.Test.YtfdibjgmbdkbcaaZRepr
import Derived.Test.YtfdibjgmbdkbcaaZGu
import Derived.Test.YtfdibjgmbdkbcaaZGw
import Derived.Test.YtfdibjgmbdkbcaaZAprR
import Derived.Test.YtfdibjgmbdkbcaaZFleetAP
namespace Go.Proofs.Ytfdibjgmbdkbcaa
open Go.RowKit Go.Lib
theorem wrap_small {n : Int} (h0 : 0 ≤ n) (h1 : n ≤ 9223372036854775807) : IntKind.i64.wrap n = n := by
  unfold IntKind.wrap
  have e1 : IntKind.i64.bits = 64 := rfl
  have e2 : IntKind.i64.signed = true := rfl
  simp only [e1, e2]
  rw [Int.emod_eq_of_lt h0 (by omega), if_neg]
  simp
  omega
theorem Fl.play_wins {ws : List (Int × Int)} {l : List Dob} (h : (Fl.wrongW ws).1 ≠ 0) : Fl.play ws l = (⟨[], []⟩, [], Fl.wrongW ws) := by unfold Fl.play; rw [if_pos h]
theorem Fl.play_fine {ws : List (Int × Int)} {l : List Dob} (h : (Fl.wrongW ws).1 = 0) (hl : l.length ≤ 120) : Fl.play ws l = ((Fl.run (Fl.start ws) l).1, (Fl.run (Fl.start ws) l).2, (0, 0)) := by unfold Fl.play; rw [if_neg (by simpa using h), if_neg (by omega)]
theorem apart_bad {ws : List (Int × Int)} {l m : List Dob} (h : (Fl.wrongW ws).1 ≠ 0) {f1 f2 : Flt} {la1 la2 : List Ans} {a b c d : Nat} (h1 : Fl.play ws l = (f1, la1, (a, b))) (h2 : Fl.play ws m = (f2, la2, (c, d))) : a = c ∧ b = d ∧ a ≠ 0 := by
  rw [Fl.play_wins h] at h1 h2
  have e := h1.symm.trans h2
  simp only [Prod.mk.injEq] at e h1
  exact ⟨e.2.2.1, e.2.2.2, fun ha => h (by rw [h1.2.2]; exact ha)⟩
theorem apart_good {ws : List (Int × Int)} {l : List Dob} {x y : Dob} (h : (Fl.wrongW ws).1 = 0) {f1 f2 : Flt} {la1 la2 : List Ans} {a b c d : Nat} (h1 : Fl.play ws (l ++ [x, y]) = (f1, la1, (a, b))) (h2 : Fl.play ws (l ++ [y, x]) = (f2, la2, (c, d))) (hl : l.length ≤ 118) :
    (a = 0 ∧ b = 0 ∧ c = 0 ∧ d = 0) ∧ f1 = (Fl.run (Fl.start ws) (l ++ [x, y])).1 ∧ la1 = (Fl.run (Fl.start ws) (l ++ [x, y])).2 ∧ f2 = (Fl.run (Fl.start ws) (l ++ [y, x])).1 ∧ la2 = (Fl.run (Fl.start ws) (l ++ [y, x])).2 := by
  rw [Fl.play_fine h (by rw [List.length_append]; simp; omega)] at h1 h2
  simp only [Prod.mk.injEq] at h1 h2
  exact ⟨⟨h1.2.2.1.symm, h1.2.2.2.symm, h2.2.2.1.symm, h2.2.2.2.symm⟩, h1.1.symm, h1.2.1.symm, h2.1.symm, h2.2.1.symm⟩
theorem dob_open {w : World} {F : Nat → Prop} {cs : List Value} {d : Dob} (h : Rp.rd w F cs d) : ∃ A c, cs = [.int .i64 d.kind, .int .i64 d.n, .int .i64 d.time, .slice A d.entry.length c, .int .i64 d.seg, .int .i64 d.pos, bv d.turn] ∧ Bytes w F (.slice A d.entry.length c) d.entry := by
  obtain ⟨c1, c1', rfl, h1, c2, c2', rfl, h2, c3, c3', rfl, h3, c4, c4', rfl, ⟨u, h4', h4⟩, c5, c5', rfl, h5, c6, c7, rfl, h6, h7⟩ := h
  have e1 : c1 = [.int .i64 d.kind] := h1
  have e2 : c2 = [.int .i64 d.n] := h2
  have e3 : c3 = [.int .i64 d.time] := h3
  have e5 : c5 = [.int .i64 d.seg] := h5
  have e6 : c6 = [.int .i64 d.pos] := h6
  have e7 : c7 = [bv d.turn] := h7
  subst e1 e2 e3 h4' e5 e6 e7
  have hbt := rdL_bytes.1 h4
  obtain ⟨A, k, rfl⟩ := hbt.form
  exact ⟨A, k, rfl, hbt⟩

set_option maxRecDepth 100000 in
set_option maxHeartbeats 8000000 in
theorem fleetApart_walk (w : World) (v0 : Value) (l0 : List (Int × Int)) (h0 : RdL w (fun _ => True) v0 l0) (v1 : Value) (l1 : List Dob) (h1 : RdL w (fun _ => True) v1 l1) (csa : List Value) (da : Dob) (ha : Rp.rd w (fun _ => True) csa da) (csb : List Value) (db : Dob) (hb : Rp.rd w (fun _ => True) csb db) :
    Calls Try.prog 12 #[v0, v1, .agg csa.toArray, .agg csb.toArray] w fun e w' => e = .returned (.bool true) ∧ Below w.heap.size w w' := by
  obtain ⟨A0, c0, hv0, hn0, hm0⟩ := h0.form
  obtain ⟨A1, c1, hv1, hn1, hm1⟩ := h1.form
  subst hv0 hv1
  unfold maxLen at hm0 hm1
  obtain ⟨Aa, ca, hca, hea⟩ := dob_open ha
  obtain ⟨Ab, cb, hcb, heb⟩ := dob_open hb
  subst hca hcb
  obtain ⟨W, hW⟩ : ∃ W, W = (w.alloc (.cells #[.int .i64 da.kind, .int .i64 da.n, .int .i64 da.time, .slice Aa da.entry.length ca, .int .i64 da.seg, .int .i64 da.pos, bv da.turn] 111)).alloc (.cells #[.int .i64 db.kind, .int .i64 db.n, .int .i64 db.time, .slice Ab db.entry.length cb, .int .i64 db.seg, .int .i64 db.pos, bv db.turn] 111) := ⟨_, rfl⟩
  have hx0 : Below w.heap.size w W := by rw [hW]; exact ((Below.refl _ _).alloc (Nat.le_refl _) _).alloc (by simp) _
  have hkA : Blk W w.heap.size 111 #[.int .i64 da.kind, .int .i64 da.n, .int .i64 da.time, .slice Aa da.entry.length ca, .int .i64 da.seg, .int .i64 da.pos, bv da.turn] := by rw [hW]; exact Blk.alloc (heap_alloc_new w _) _
  have hkB : Blk W (w.heap.size + 1) 111 #[.int .i64 db.kind, .int .i64 db.n, .int .i64 db.time, .slice Ab db.entry.length cb, .int .i64 db.seg, .int .i64 db.pos, bv db.turn] := by
    rw [hW]
    have := heap_alloc_new (w.alloc (.cells #[.int .i64 da.kind, .int .i64 da.n, .int .i64 da.time, .slice Aa da.entry.length ca, .int .i64 da.seg, .int .i64 da.pos, bv da.turn] 111)) (.cells #[.int .i64 db.kind, .int .i64 db.n, .int .i64 db.time, .slice Ab db.entry.length cb, .int .i64 db.seg, .int .i64 db.pos, bv db.turn] 111)
    rw [World.size_alloc] at this
    exact this
  have HW := Lib.hid hW
  clear hW ha hb
  go_enter Try.func12, Try.ntmps12
  go_upto_region 1 with (fail)
  rw [← HW.out]
  go_wp2_with fail
  with_reducible refine (alive7 W).mono ?_
  rintro e w1 ⟨rfl, hx1⟩
  have hkA1 := hkA.below hx1 hkA.lt
  have hkB1 := hkB.below hx1 hkB.lt
  have hx01 := hx0.trans (hx1.mono hx0.size)
  have a0 : w1.cell? ⟨w.heap.size, 0, none⟩ = some (.int .i64 da.kind) := hkA1.cell 0
  have b0 : w1.cell? ⟨w.heap.size + 1, 0, none⟩ = some (.int .i64 db.kind) := hkB1.cell 0
  by_cases ka : da.kind = 1
  · have kaB : (da.kind != 1) = false := by rw [bne_eq_false_iff_eq]; exact ka
    by_cases kb : db.kind = 1
    · have kbB : (db.kind != 1) = false := by rw [bne_eq_false_iff_eq]; exact kb
      by_cases h118 : 118 < l1.length
      · have h118B : (118 : Int) < (l1.length : Int) := by omega
        go_wp2_with fail
        go_ret
        exact ⟨rfl, hx01⟩
      · have h118B : decide ((118 : Int) < (l1.length : Int)) = false := decide_eq_false (by omega)
        obtain ⟨f1, la1, fa, fb, hpl1⟩ : ∃ f la a b, Fl.play l0 (l1 ++ [da, db]) = (f, la, (a, b)) := ⟨_, _, _, _, rfl⟩
        obtain ⟨f2, la2, fc, fd, hpl2⟩ : ∃ f la a b, Fl.play l0 (l1 ++ [db, da]) = (f, la, (a, b)) := ⟨_, _, _, _, rfl⟩
        have HPL1 := Lib.hid hpl1
        have HPL2 := Lib.hid hpl2
        have HX := Lib.hid (h0.below hx01)
        have h01 := h0.below hx01
        have h11 := h1.below hx01
        have hea1 := SlAt.below hea hx01
        have heb1 := SlAt.below heb hx01
        have KA := Lib.hid ka
        have KB := Lib.hid kb
        clear hpl1 hpl2 ka kb
        go_wp2_with fail
        clear a0 b0 h118B kaB kbB
        refine apart_region5 _ w1 _ _ _ _ _ _ _ _ _ _ _ _ _ _ _ _ _ _ _ _ _ _ _ _ _ _ _ _ _ _ _ _ _ _ _ _ _ _ _ _ _ _ _ _ _ _ _ _ _ _ _ _ _ _ _ _ _ _ _ _ _ _ _ _ _ _ _ _ _ _ _ _ _ _ _ _ _ _ _ _ _ _ _ _ _ _ _ _ _ _ _ _ _ _ _ _ _ _ _ _ _ _ _ _ _ _ _ _ _ _ _ _ _ _ _ _ _ _ _ _ _ _ _ _ _ _ _ _ _ _ _ _ _ _ _ _ _ _ _ _ _ h01 h11 hkA1 hkB1 hea1 heb1 (by omega) _ _ _ _ HPL1.out ?hQ1 ?_
        case hQ1 => exact fun _ _ _ _ _ h => h
        rintro _ _ _ x33 x35 x37 x40 x41 x42 x43 x44 x45 As Ab Aa cs cb' ca' g9 g11 FC w2 rfl rfl rfl k9 k11 z9 z11 q1 q2 q3 n9 n11 hF hx2
        have hkA2 := hkA1.below hx2 hkA1.lt
        have hkB2 := hkB1.below hx2 hkB1.lt
        have h02 := h01.below hx2
        have h12 := h11.below hx2
        have hea2 := SlAt.below hea1 hx2
        have heb2 := SlAt.below heb1 hx2
        go_wp2_with fail
        refine apart_region6 _ w2 _ _ _ _ _ _ _ _ _ _ _ _ _ _ _ _ _ _ _ _ _ _ _ _ _ _ _ _ _ _ _ _ _ _ _ _ _ _ _ _ _ _ _ _ _ _ _ _ _ _ _ _ _ _ _ _ _ _ _ _ _ _ _ _ _ _ _ _ _ _ _ _ _ _ _ _ _ _ _ _ _ _ _ _ _ _ _ _ _ _ _ _ _ _ _ _ _ _ _ _ _ _ _ _ _ _ _ _ _ _ _ _ _ _ _ _ _ _ _ _ _ _ _ _ _ _ _ _ _ _ _ _ _ _ _ _ _ _ _ _ _ h02 h12 hkB2 hkA2 heb2 hea2 (by omega) _ _ _ _ HPL2.out ?hQ2 ?_
        case hQ2 => exact fun _ _ _ _ _ h => h
        rintro _ _ _ u33 u35 u37 u40 u41 u42 u43 u44 u45 Bs Bb Ba ds db' da' g12 g14 FD w3 rfl rfl rfl k12 k14 z12 z14 r1 r2 r3 n12 n14 hG hx3
        have hx23 := hx2.trans (hx3.mono hx2.size)
        have hx13 := hx01.trans (hx23.mono hx01.size)
        have hkA3 := hkA2.below hx3 hkA2.lt
        have hkB3 := hkB2.below hx3 hkB2.lt
        have h03 := h02.below hx3
        have z93 := z9.below hx3 z9.lt
        have z113 := z11.below hx3 z11.lt
        have q13 := q1.below hx3
        have q23 := q2.below hx3
        have q33 := q3.below hx3
        clear hkA1 hkB1 hkA2 hkB2 h01 h11 h02 h12 hea1 heb1 hea2 heb2 z9 z11 q1 q2 q3 hx2 hx3 hx23 HX
        have e0 : w3.cell? ⟨g11, 0, none⟩ = some (.int .i64 (fa : Int)) := z113.cell 0
        have e1 : w3.cell? ⟨g11, 1, none⟩ = some (.int .i64 (fb : Int)) := z113.cell 1
        have e2 : w3.cell? ⟨g14, 0, none⟩ = some (.int .i64 (fc : Int)) := z14.cell 0
        have e3 : w3.cell? ⟨g14, 1, none⟩ = some (.int .i64 (fd : Int)) := z14.cell 1
        by_cases hw : (Fl.wrongW l0).1 = 0
        · obtain ⟨hp1, hp2⟩ := apart_good hw HPL1.out HPL2.out (by omega)
          obtain ⟨rfl, rfl, rfl, rfl⟩ : fa = 0 ∧ fb = 0 ∧ fc = 0 ∧ fd = 0 := hp1
          have HP2 := Lib.hid hp2
          clear hp2 hw
          go_wp2_with fail
          clear e0 e1 e2 e3
          go_loopg [74] l0.length (fun m i wr => ∃ j : Nat, j + m = l0.length ∧ i = .int .i64 (j : Int) ∧ Hid (∀ p ∈ l0.take j, ¬ (p.1 ≤ da.time ∧ da.time < p.2 ∧ p.1 ≤ db.time ∧ db.time < p.2)) ∧ Below w3.heap.size w3 wr)
          case atStart => exact ⟨0, by omega, rfl, Lib.hid (by simp), Below.refl _ _⟩
          case round =>
            obtain ⟨j, hj, rfl, HNO, hx⟩ := hrel
            have hxr := hx13.trans (hx.mono hx13.size)
            by_cases hlt : j < l0.length
            · obtain ⟨b, off, c', hA1, _, hb1, c0', c1'⟩ := win_at (h03.below hx) hlt
              injection hA1 with hA1 _ hA3
              subst hA1 hA3
              have hltB : (j : Int) < (l0.length : Int) := by omega
              have hj0 : (0 : Int) ≤ (j : Int) := by omega
              have HN : Hid (¬ (l0[j].1 ≤ da.time ∧ da.time < l0[j].2 ∧ l0[j].1 ≤ db.time ∧ db.time < l0[j].2) → ∀ p ∈ l0.take (j + 1), ¬ (p.1 ≤ da.time ∧ da.time < p.2 ∧ p.1 ≤ db.time ∧ db.time < p.2)) := Lib.hid (fun h p hp => by
                rw [List.take_succ_eq_append_getElem hlt] at hp
                rcases List.mem_append.1 hp with hp | hp
                · exact HNO.out p hp
                · rw [List.mem_singleton.1 hp]; exact h)
              clear HNO
              generalize l0[j] = p at *
              obtain ⟨p1, p2⟩ := p
              simp only at c0' c1' HN
              go_upto_region 13 with (fail)
              have hxb := (Below.refl wr.heap.size wr).alloc (Nat.le_refl _) (.cells #[.int .i64 p1, .int .i64 p2] 112)
              have hbP : Blk (wr.alloc (.cells #[.int .i64 p1, .int .i64 p2] 112)) wr.heap.size 112 #[.int .i64 p1, .int .i64 p2] := heap_alloc_new wr _
              have hx6 := hx.alloc hx.size (.cells #[.int .i64 p1, .int .i64 p2] 112)
              generalize wr.alloc (.cells #[.int .i64 p1, .int .i64 p2] 112) = w6 at *
              have y0 : w6.cell? ⟨wr.heap.size, 0, none⟩ = some (.int .i64 p1) := hbP.cell 0
              have y1 : w6.cell? ⟨wr.heap.size, 1, none⟩ = some (.int .i64 p2) := hbP.cell 1
              have y2 : w6.cell? ⟨w.heap.size, 2, none⟩ = some (.int .i64 da.time) := (hkA3.below hx6 hkA3.lt).cell 2
              have y3 : w6.cell? ⟨w.heap.size + 1, 2, none⟩ = some (.int .i64 db.time) := (hkB3.below hx6 hkB3.lt).cell 2
              generalize wr.heap.size = gp at *
              clear hbP hxb c0' c1'
              by_cases t1 : p1 ≤ da.time
              · by_cases t2 : da.time < p2
                · by_cases t3 : p1 ≤ db.time
                  · by_cases t4 : db.time < p2
                    · clear HN
                      go_wp2_with fail
                      go_ret
                      exact ⟨rfl, hx13.trans (hx6.mono hx13.size)⟩
                    · have t4B : decide (db.time < p2) = false := decide_eq_false t4
                      have HN2 := Lib.hid (HN.out (fun h => t4 h.2.2.2))
                      go_wp2_with fail
                      go_roundg (gk - 1)
                      case measure => omega
                      case rel => exact ⟨j + 1, by omega, by go_num, HN2, hx6⟩
                  · have t3B : decide (p1 ≤ db.time) = false := decide_eq_false t3
                    have HN2 := Lib.hid (HN.out (fun h => t3 h.2.2.1))
                    go_wp2_with fail
                    go_roundg (gk - 1)
                    case measure => omega
                    case rel => exact ⟨j + 1, by omega, by go_num, HN2, hx6⟩
                · have t2B : decide (da.time < p2) = false := decide_eq_false t2
                  have HN2 := Lib.hid (HN.out (fun h => t2 h.2.1))
                  go_wp2_with fail
                  go_roundg (gk - 1)
                  case measure => omega
                  case rel => exact ⟨j + 1, by omega, by go_num, HN2, hx6⟩
              · have t1B : decide (p1 ≤ da.time) = false := decide_eq_false t1
                have HN2 := Lib.hid (HN.out (fun h => t1 h.1))
                go_wp2_with fail
                go_roundg (gk - 1)
                case measure => omega
                case rel => exact ⟨j + 1, by omega, by go_num, HN2, hx6⟩
            · have hltB : decide ((j : Int) < (l0.length : Int)) = false := decide_eq_false (by omega)
              go_wp2_with fail
              have HNO2 : Hid (∀ p ∈ l0, ¬ (p.1 ≤ da.time ∧ da.time < p.2 ∧ p.1 ≤ db.time ∧ db.time < p.2)) := Lib.hid (by
                have h := HNO.out
                rw [List.take_of_length_le (by omega)] at h
                exact h)
              obtain ⟨hf12, rx, ry, hla1, hla2⟩ : f1 = f2 ∧ ∃ rx ry : Ans, la1 = (Fl.run (Fl.start l0) l1).2 ++ [rx, ry] ∧ la2 = (Fl.run (Fl.start l0) l1).2 ++ [ry, rx] := by
                obtain ⟨g1, g2, g3, g4⟩ := HP2.out
                obtain ⟨e1, x, y, e2, e3⟩ := Fl.apart_run HNO2.out KA.out KB.out
                exact ⟨by rw [g1, g3, e1], x, y, by rw [g2, e2], by rw [g4, e3]⟩
              have hln : (Fl.run (Fl.start l0) l1).2.length = l1.length := Fl.length_run _ _
              have hn1 : l1.length < la1.length := by rw [hla1, List.length_append, hln]; simp
              have hn2 : l1.length < la2.length := by rw [hla2, List.length_append, hln]; simp
              have hm1 : l1.length + 1 < la1.length := by rw [hla1, List.length_append, hln]; simp
              have hm2 : l1.length + 1 < la2.length := by rw [hla2, List.length_append, hln]; simp
              have g1n : la1[l1.length] = rx := by simp only [hla1]; rw [List.getElem_append_right (by omega)]; simp [hln]
              have g1m : la1[l1.length + 1] = ry := by simp only [hla1]; rw [List.getElem_append_right (by omega)]; simp [hln]
              have g2n : la2[l1.length] = ry := by simp only [hla2]; rw [List.getElem_append_right (by omega)]; simp [hln]
              have g2m : la2[l1.length + 1] = rx := by simp only [hla2]; rw [List.getElem_append_right (by omega)]; simp [hln]
              have q33r := q33.below hx
              have r3r := r3.below hx
              obtain ⟨b1, o1, k1, u1, hA1, _, hb1, a0, a1, a2, a3, a4, hu1⟩ := ans_at q33r hn1
              obtain ⟨b1', o1', k1', u2, hA1', _, _, c0_, c1_, c2_, c3_, c4_, hu2⟩ := ans_at q33r hm1
              obtain ⟨b2, o2, k2, u3, hA2, _, hb2, d0, d1, d2, d3, d4, hu3⟩ := ans_at r3r hn2
              obtain ⟨b2', o2', k2', u4, hA2', _, _, e0, e1, e2, e3, e4, hu4⟩ := ans_at r3r hm2
              injection hA1 with hA1 _ hA3
              subst hA1 hA3
              injection hA1' with hA1' _ hA3
              injection hA1' with hA1'
              injection hA1' with p1 p2
              subst p1 p2
              injection hA2 with hA2 _ hA3
              subst hA2 hA3
              injection hA2' with hA2' _ hA3
              injection hA2' with hA2'
              injection hA2' with p1 p2
              subst p1 p2
              simp only [g1n] at a0 a1 a2 a3 a4 hu1
              simp only [g1m] at c0_ c1_ c2_ c3_ c4_ hu2
              simp only [g2n] at d0 d1 d2 d3 d4 hu3
              simp only [g2m] at e0 e1 e2 e3 e4 hu4
              obtain ⟨U1, cu1, hU1⟩ := hu1.form
              obtain ⟨U2, cu2, hU2⟩ := hu2.form
              obtain ⟨U3, cu3, hU3⟩ := hu3.form
              obtain ⟨U4, cu4, hU4⟩ := hu4.form
              subst hU1 hU2 hU3 hU4
              subst hf12
              have z9r := z93.below hx z93.lt
              have z12r := z12.below hx z12.lt
              have HSF := Lib.hid (fun (z : World) (hz : Below wr.heap.size wr z) => sameFleet_yes z _ _ _ _ _ _ _ _ f1 ((q13.below hx).below hz) ((r1.below hx).below hz) ((q23.below hx).below hz) ((r2.below hx).below hz))
              have HS1 := Lib.hid (fun (z : World) (hz : Below wr.heap.size wr z) => sameAns_yes z _ _ (rx.err : Int) rx.sh rx.pl rx.sz _ _ rx.root (SlAt.below hu1 hz) (SlAt.below hu4 hz))
              have HS2 := Lib.hid (fun (z : World) (hz : Below wr.heap.size wr z) => sameAns_yes z _ _ (ry.err : Int) ry.sh ry.pl ry.sz _ _ ry.root (SlAt.below hu2 hz) (SlAt.below hu3 hz))
              have hA2x : o1 + (l1.length + 1) * 5 = o1 + (l1.length + 1) * 5 := rfl
              have HSS : Hid (∀ z : World, Below wr.heap.size wr z → (z.cell? ⟨g9, 0, none⟩ = some (.slice As f1.sh.length cs) ∧ z.cell? ⟨g9, 1, none⟩ = some (.slice Ab f1.book.length cb') ∧ z.cell? ⟨g12, 0, none⟩ = some (.slice Bs f1.sh.length ds) ∧ z.cell? ⟨g12, 1, none⟩ = some (.slice Bb f1.book.length db') ∧ z.cell? ⟨b1, o1 + l1.length * 5, none⟩ = some (.int .i64 (rx.err : Int)) ∧ z.cell? ⟨b1, o1 + l1.length * 5 + 1, none⟩ = some (.int .i64 rx.sh) ∧ z.cell? ⟨b1, o1 + l1.length * 5 + 2, none⟩ = some (.int .i64 rx.pl) ∧ z.cell? ⟨b1, o1 + l1.length * 5 + 3, none⟩ = some (.int .i64 rx.sz) ∧ z.cell? ⟨b1, o1 + l1.length * 5 + 4, none⟩ = some (.slice U1 rx.root.length cu1) ∧ z.cell? ⟨b1, o1 + (l1.length + 1) * 5, none⟩ = some (.int .i64 (ry.err : Int)) ∧ z.cell? ⟨b1, o1 + (l1.length + 1) * 5 + 1, none⟩ = some (.int .i64 ry.sh) ∧ z.cell? ⟨b1, o1 + (l1.length + 1) * 5 + 2, none⟩ = some (.int .i64 ry.pl) ∧ z.cell? ⟨b1, o1 + (l1.length + 1) * 5 + 3, none⟩ = some (.int .i64 ry.sz) ∧ z.cell? ⟨b1, o1 + (l1.length + 1) * 5 + 4, none⟩ = some (.slice U2 ry.root.length cu2) ∧ z.cell? ⟨b2, o2 + l1.length * 5, none⟩ = some (.int .i64 (ry.err : Int)) ∧ z.cell? ⟨b2, o2 + l1.length * 5 + 1, none⟩ = some (.int .i64 ry.sh) ∧ z.cell? ⟨b2, o2 + l1.length * 5 + 2, none⟩ = some (.int .i64 ry.pl) ∧ z.cell? ⟨b2, o2 + l1.length * 5 + 3, none⟩ = some (.int .i64 ry.sz) ∧ z.cell? ⟨b2, o2 + l1.length * 5 + 4, none⟩ = some (.slice U3 ry.root.length cu3) ∧ z.cell? ⟨b2, o2 + (l1.length + 1) * 5, none⟩ = some (.int .i64 (rx.err : Int)) ∧ z.cell? ⟨b2, o2 + (l1.length + 1) * 5 + 1, none⟩ = some (.int .i64 rx.sh) ∧ z.cell? ⟨b2, o2 + (l1.length + 1) * 5 + 2, none⟩ = some (.int .i64 rx.pl) ∧ z.cell? ⟨b2, o2 + (l1.length + 1) * 5 + 3, none⟩ = some (.int .i64 rx.sz) ∧ z.cell? ⟨b2, o2 + (l1.length + 1) * 5 + 4, none⟩ = some (.slice U4 rx.root.length cu4) ∧ Below wr.heap.size wr z)) := Lib.hid (fun z hz => by
                have k9 := z9r.below hz z9r.lt
                have k12 := z12r.below hz z12r.lt
                have q1 := fun i => hz.cell (p := ⟨b1, i, none⟩) hb1
                have q2 := fun i => hz.cell (p := ⟨b2, i, none⟩) hb2
                exact ⟨k9.cell 0, k9.cell 1, k12.cell 0, k12.cell 1, (q1 _).trans a0, (q1 _).trans a1, (q1 _).trans a2, (q1 _).trans a3, (q1 _).trans a4, (q1 _).trans c0_, (q1 _).trans c1_, (q1 _).trans c2_, (q1 _).trans c3_, (q1 _).trans c4_, (q2 _).trans d0, (q2 _).trans d1, (q2 _).trans d2, (q2 _).trans d3, (q2 _).trans d4, (q2 _).trans e0, (q2 _).trans e1, (q2 _).trans e2, (q2 _).trans e3, (q2 _).trans e4, hz⟩)
              have hN0 : (0 : Int) ≤ (l1.length : Int) := by omega
              have hM0 : (0 : Int) ≤ (l1.length : Int) + 1 := by omega
              have hN1 : (l1.length : Int) < (la1.length : Int) := by omega
              have hN2 : (l1.length : Int) < (la2.length : Int) := by omega
              have hM1 : (l1.length : Int) + 1 < (la1.length : Int) := by omega
              have hM2 : (l1.length : Int) + 1 < (la2.length : Int) := by omega
              have hwr : IntKind.i64.wrap ((l1.length : Int) + 1) = (l1.length : Int) + 1 := wrap_small (by omega) (by omega)
              have hs0 := HSS.out wr.drew (Below.refl _ _).drew
              clear hla1 hla2 hln g1n g1m g2n g2m a0 a1 a2 a3 a4 c0_ c1_ c2_ c3_ c4_ d0 d1 d2 d3 d4 e0 e1 e2 e3 e4 z93 z113 z12 z14 z9r z12r q13 q23 q33 q33r r1 r2 r3 r3r HNO HP2 hA2x
              go_region_held3 (fun z : World => z.cell? ⟨g9, 0, none⟩ = some (.slice As f1.sh.length cs) ∧ z.cell? ⟨g9, 1, none⟩ = some (.slice Ab f1.book.length cb') ∧ z.cell? ⟨g12, 0, none⟩ = some (.slice Bs f1.sh.length ds) ∧ z.cell? ⟨g12, 1, none⟩ = some (.slice Bb f1.book.length db') ∧ z.cell? ⟨b1, o1 + l1.length * 5, none⟩ = some (.int .i64 (rx.err : Int)) ∧ z.cell? ⟨b1, o1 + l1.length * 5 + 1, none⟩ = some (.int .i64 rx.sh) ∧ z.cell? ⟨b1, o1 + l1.length * 5 + 2, none⟩ = some (.int .i64 rx.pl) ∧ z.cell? ⟨b1, o1 + l1.length * 5 + 3, none⟩ = some (.int .i64 rx.sz) ∧ z.cell? ⟨b1, o1 + l1.length * 5 + 4, none⟩ = some (.slice U1 rx.root.length cu1) ∧ z.cell? ⟨b1, o1 + (l1.length + 1) * 5, none⟩ = some (.int .i64 (ry.err : Int)) ∧ z.cell? ⟨b1, o1 + (l1.length + 1) * 5 + 1, none⟩ = some (.int .i64 ry.sh) ∧ z.cell? ⟨b1, o1 + (l1.length + 1) * 5 + 2, none⟩ = some (.int .i64 ry.pl) ∧ z.cell? ⟨b1, o1 + (l1.length + 1) * 5 + 3, none⟩ = some (.int .i64 ry.sz) ∧ z.cell? ⟨b1, o1 + (l1.length + 1) * 5 + 4, none⟩ = some (.slice U2 ry.root.length cu2) ∧ z.cell? ⟨b2, o2 + l1.length * 5, none⟩ = some (.int .i64 (ry.err : Int)) ∧ z.cell? ⟨b2, o2 + l1.length * 5 + 1, none⟩ = some (.int .i64 ry.sh) ∧ z.cell? ⟨b2, o2 + l1.length * 5 + 2, none⟩ = some (.int .i64 ry.pl) ∧ z.cell? ⟨b2, o2 + l1.length * 5 + 3, none⟩ = some (.int .i64 ry.sz) ∧ z.cell? ⟨b2, o2 + l1.length * 5 + 4, none⟩ = some (.slice U3 ry.root.length cu3) ∧ z.cell? ⟨b2, o2 + (l1.length + 1) * 5, none⟩ = some (.int .i64 (rx.err : Int)) ∧ z.cell? ⟨b2, o2 + (l1.length + 1) * 5 + 1, none⟩ = some (.int .i64 rx.sh) ∧ z.cell? ⟨b2, o2 + (l1.length + 1) * 5 + 2, none⟩ = some (.int .i64 rx.pl) ∧ z.cell? ⟨b2, o2 + (l1.length + 1) * 5 + 3, none⟩ = some (.int .i64 rx.sz) ∧ z.cell? ⟨b2, o2 + (l1.length + 1) * 5 + 4, none⟩ = some (.slice U4 rx.root.length cu4) ∧ Below wr.heap.size wr z) (first | assumption | exact hs0)
                (first
                  | ((with_reducible refine (HSF.out wr.drew (Below.refl _ _).drew).mono ?_)
                     rintro e y1 ⟨rfl, hy1⟩
                     have hz1 : Below wr.heap.size wr y1 := (Below.refl wr.heap.size wr).drew.trans hy1
                     have hs1 := HSS.out y1 hz1)
                  | ((with_reducible refine (HS1.out y1 hz1).mono ?_)
                     rintro e y2 ⟨rfl, hy2⟩
                     have hz2 : Below wr.heap.size wr y2 := hz1.trans (hy2.mono hz1.size)
                     have hs2 := HSS.out y2 hz2)
                  | ((with_reducible refine (HS2.out y2 hz2).mono ?_)
                     rintro e y3 ⟨rfl, hy3⟩
                     have hz3 : Below wr.heap.size wr y3 := hz2.trans (hy3.mono hz2.size)
                     have hs3 := HSS.out y3 hz3))
              go_wp2_with fail
              go_ret
              exact ⟨rfl, hxr.trans (hz3.mono hxr.size)⟩
        · obtain ⟨hp1, hp2, hp3⟩ := apart_bad hw HPL1.out HPL2.out
          subst hp1 hp2
          have hneX : ((fa : Int) != 0) = true := by rw [bne_iff_ne]; omega
          go_wp2_with fail
          go_ret
          exact ⟨by simp, hx13⟩
    · have kbB : (db.kind != 1) = true := by rw [bne_iff_ne]; exact kb
      go_wp2_with fail
      go_ret
      exact ⟨rfl, hx01⟩
  · have kaB : (da.kind != 1) = true := by rw [bne_iff_ne]; exact ka
    go_wp2_with fail
    go_ret
    exact ⟨rfl, hx01⟩
end Go.Proofs.Ytfdibjgmbdkbcaa
