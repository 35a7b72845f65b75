/-
  THE WALK of TopSteps. Conditions: what comes in is read.
-/
import Derived.Test.YtnfaefgmekfloaaZTopD
import Derived.Test.YtnfaefgmekfloaaZTopO
namespace Go.Proofs.Ytnfaefgmekfloaa
open Go.RowKit Go.Lib

set_option maxRecDepth 100000 in
set_option maxHeartbeats 8000000 in
theorem topSteps_walk (w : World) (v0 : Value) (ks : List Int) (h0 : RdL w (fun _ => True) v0 ks) :
    Calls Try.prog 5 #[v0] w fun e w' => e = .returned (.bool true) ∧ Below w.heap.size w w' := by
  obtain ⟨A0, c0, hv0, hn0, hm0⟩ := h0.form
  subst hv0
  unfold maxLen at hm0
  obtain ⟨i0, hi, hz0, hz1, hz2⟩ := info_parts info_dob
  go_enter Try.func5, Try.ntmps5
  go_wp2_with fail
  with_reducible refine (aliveT w).mono ?_
  rintro e w1 ⟨rfl, hx1⟩
  by_cases c50 : 50 < ks.length
  · have cB : (50 : Int) < (ks.length : Int) := by omega
    go_wp2_with fail
    go_ret
    exact ⟨rfl, hx1⟩
  have c50B : decide ((50 : Int) < (ks.length : Int)) = false := decide_eq_false (by omega)
  go_wp2_with fail
  go_loopg [3, 20] ks.length (fun m v i wr => ∃ j : Nat, j + m = ks.length ∧ i = .int .i64 (j : Int) ∧ Gro w1 wr w1.heap.size (fun _ => False) (.slice none 0 0) v ((ks.take j).map Fl.doK))
  case atStart => exact ⟨0, by omega, rfl, Gro.refl (OwnR.nil_ _ _ _ _ _)⟩
  case round =>
    obtain ⟨j, hj, rfl, hG⟩ := hrel
    have hBr : w1.heap.size ≤ wr.heap.size := hG.size
    have hx0r := hx1.trans (hG.bel.mono hx1.size)
    obtain ⟨A1, c1, hv1, hl1, hc1⟩ := hG.own.shape
    unfold maxLen at hc1
    have hlj : ((ks.take j).map Fl.doK).length = j := by rw [List.length_map, List.length_take]; omega
    rw [hlj] at hv1 hl1
    subst hv1
    by_cases hlt : j < ks.length
    · obtain ⟨g2, o2, k2, hA2, hg2, d0⟩ := int_at (h0.below hx0r) hlt
      injection hA2 with hA2 hA3 hA4
      clear hA3
      subst hA2 hA4
      have hltB : (j : Int) < (ks.length : Int) := by omega
      have hj0 : (0 : Int) ≤ (j : Int) := by omega
      obtain ⟨xs, hown, hin⟩ := hG.own
      rw [hlj] at hown
      have HLJ := Lib.hid hlj
      have HT : Hid ((ks.take (j + 1)).map Fl.doK = (ks.take j).map Fl.doK ++ [Fl.doK ks[j]]) := Lib.hid (by rw [List.take_succ_eq_append_getElem hlt, List.map_append]; rfl)
      clear hlj
      generalize (ks.take j).map Fl.doK = L1 at *
      generalize ks[j] = k at *
      go_wp2_with fail
      with_reducible refine (doT wr k 0).mono ?_
      rintro e w5 ⟨rfl, hx5⟩
      have hown5 := hown.below hx5
      have hsrc := SlAt.newK w5 29 [.int .i64 k, .int .i64 0, .int .i64 0, .slice none 0 0, .int .i64 0, .int .i64 0, .int .u8 0] 7 rfl
      have hownA := hown5.alloc (.cells #[.int .i64 k, .int .i64 0, .int .i64 0, .slice none 0 0, .int .i64 0, .int .i64 0, .int .u8 0] 29)
      have hxA : Below wr.heap.size wr (w5.alloc (.cells #[.int .i64 k, .int .i64 0, .int .i64 0, .slice none 0 0, .int .i64 0, .int .i64 0, .int .u8 0] 29)) := hx5.alloc hx5.size _
      have hBA : w1.heap.size ≤ (w5.alloc (.cells #[.int .i64 k, .int .i64 0, .int .i64 0, .slice none 0 0, .int .i64 0, .int .i64 0, .int .u8 0] 29)).heap.size := Nat.le_trans hBr hxA.size
      clear d0
      go_wp2_with (at_builtin
                   refine wpList_append_Own _ (by rfl) (.tmp 24) (.tmp 27) 25 (by rfl) w1.heap.size 29 i0 _ 7 72 Try.underlying25 hi hz0 hz1 hz2 (by rfl) (by omega) (.slice A1 j c1) j xs (by rfl) hownA _ _ 1 [.int .i64 k, .int .i64 0, .int .i64 0, .slice none 0 0, .int .i64 0, .int .i64 0, .int .u8 0] (by rfl) hsrc (by simp [Value.oneCell']) (by simp only [maxLen]; omega) (by omega) hBA ?_
                   intro v2 w2 hown2 hgr2 hat2
                   have hG2 : Gro w1 w2 w1.heap.size (fun _ => False) (.slice none 0 0) v2 (L1 ++ [Fl.doK k]) := hG.snoc (fun b hb => hb.elim) hin (by rw [hown.1, HLJ.out]; rfl) HLJ.out.symm hxA hBr hgr2 hat2 (fun b hb => (hown.lt b hb).1) (d := Fl.doK k) (bytes_nil _ _) hown2)
      go_roundg (gk - 1)
      case measure => omega
      case rel => exact ⟨j + 1, by omega, by go_num, by rw [HT.out]; exact hG2⟩
    · have hltB : decide ((j : Int) < (ks.length : Int)) = false := decide_eq_false (by omega)
      have hjn : j ≤ ks.length ∧ ks.length ≤ j := by omega
      have htk : ks.take j = ks := List.take_of_length_le (by omega)
      rw [htk] at hG
      have hl6 : RdL wr (fun b => b < wr.heap.size) (.slice A1 j c1) (ks.map Fl.doK) := OwnR.rd (OwnR.weak hG.own (fun k hk _ => hk)) (fun k hk => (hG.own.lt k hk).2)
      clear htk hlj
      generalize gk = gk0 at *
      generalize wr = w2 at *
      go_wp2_with fail
      with_reducible refine (windows_at w2 1 1 rfl (by decide)).mono ?_
      rintro e w3 ⟨vw, rfl, hvw, hx23⟩
      have hx03 := hx0r.trans (hx23.mono hx0r.size)
      have hvr : RdL w3 (fun _ => True) vw (Fl.windowsL 1) := OwnR.rd hvw (fun _ _ => trivial)
      obtain ⟨Aw, cw, hvw3, _, _⟩ := hvr.form
      subst hvw3
      have hl63 := hl6.below hx23
      clear hvw hl6 hG
      obtain ⟨fx, lax, ax, bx, hpl⟩ : ∃ f_ la_ a_ b_, Fl.play (Fl.windowsL 1) (ks.map Fl.doK) = (f_, la_, (a_, b_)) := ⟨_, _, _, _, rfl⟩
      have HP := Lib.hid (play_any w3 _ _ _ _ (Fl.windowsL 1) (ks.map Fl.doK) hvr hl63)
      rw [hpl] at HP
      have HPLx := Lib.hid hpl
      clear hpl
      go_wp2_with fail
      refine HP.out.mono ?_
      rintro e w4 ⟨vs, vb, va, rfl, qsx, qbx, qax, hxpx⟩
      simp only at qsx qbx qax ⊢
      replace qsx := qsx.weak (F' := fun b => b < w4.heap.size) fun b hb _ => hb
      replace qbx := qbx.weak (F' := fun b => b < w4.heap.size) fun b hb _ => hb
      replace qax := qax.weak (F' := fun b => b < w4.heap.size) fun b hb _ => hb
      obtain ⟨Asx, csx, hvs, hlsx, hcsx⟩ := qsx.form
      obtain ⟨Abx, cbx, hvb, hlbx, hcbx⟩ := qbx.form
      obtain ⟨Aax, cax, hva, hlax, hcax⟩ := qax.form
      unfold maxLen at hcsx hcbx hcax
      subst hvs hvb hva
      clear HP
      go_upto_region 12 with (fail)
      have hxqx := ((Below.refl w4.heap.size w4).alloc (Nat.le_refl _) (.cells #[.slice Asx fx.sh.length csx, .slice Abx fx.book.length cbx] 34)).alloc (by simp) (.cells #[.int .i64 (ax : Int), .int .i64 (bx : Int)] 38)
      have hbFx : Blk ((w4.alloc (.cells #[.slice Asx fx.sh.length csx, .slice Abx fx.book.length cbx] 34)).alloc (.cells #[.int .i64 (ax : Int), .int .i64 (bx : Int)] 38)) w4.heap.size 34 #[.slice Asx fx.sh.length csx, .slice Abx fx.book.length cbx] := Blk.alloc (heap_alloc_new w4 _) _
      have hbWx : Blk ((w4.alloc (.cells #[.slice Asx fx.sh.length csx, .slice Abx fx.book.length cbx] 34)).alloc (.cells #[.int .i64 (ax : Int), .int .i64 (bx : Int)] 38)) (w4.heap.size + 1) 38 #[.int .i64 (ax : Int), .int .i64 (bx : Int)] := by
        have := heap_alloc_new (w4.alloc (.cells #[.slice Asx fx.sh.length csx, .slice Abx fx.book.length cbx] 34)) (.cells #[.int .i64 (ax : Int), .int .i64 (bx : Int)] 38)
        rw [World.size_alloc] at this
        exact this
      generalize ((w4.alloc (.cells #[.slice Asx fx.sh.length csx, .slice Abx fx.book.length cbx] 34)).alloc (.cells #[.int .i64 (ax : Int), .int .i64 (bx : Int)] 38)) = w5 at *
      have hxsx := hxpx.trans (hxqx.mono hxpx.size)
      have hxxB := hx03.trans (hxsx.mono hx03.size)
      replace qsx := qsx.below hxqx
      replace qbx := qbx.below hxqx
      replace qax := qax.below hxqx
      have hgwx : w3.heap.size ≤ w4.heap.size := hxpx.size
      clear hxpx hxqx
      generalize w4.heap.size = gx at *
      have e0 : w5.cell? ⟨gx + 1, 0, none⟩ = some (.int .i64 (ax : Int)) := hbWx.cell 0
      have hpl0 : Fl.play (Fl.windowsL 1) (ks.map Fl.doK) = ((Fl.run (Fl.start (Fl.windowsL 1)) (ks.map Fl.doK)).1, (Fl.run (Fl.start (Fl.windowsL 1)) (ks.map Fl.doK)).2, (0, 0)) := by
        unfold Fl.play
        rw [Fl.wrong_windows 1 (by decide), if_neg (by simp), if_neg (by rw [List.length_map]; omega)]
      have hpp := hpl0.symm.trans HPLx.out
      injection hpp with q1 q2
      injection q2 with q2 q3
      injection q3 with q3 q4
      have b0 : ((ax : Int) != 0) = false := by rw [← q3]; rfl
      have HLA := Lib.hid q2.symm
      have hll : Hid (lax.length = ks.length) := Lib.hid (by rw [← q2, Fl.length_run, List.length_map])
      clear hpl0 q1 q2 q3 q4 hbFx hbWx qsx qbx
      have h05 := h0.below hxxB
      go_wp2_with fail
      clear e0
      go_loopg [9, 42] ks.length (fun m s i wr => ∃ j : Nat, j + m = ks.length ∧ i = .int .i64 (j : Int) ∧ ∃ st : Int, s = .int .i64 st ∧ Hid (st = (ks.take j).foldl Fl.nextS 1) ∧ 1 ≤ st ∧ st ≤ 100 ∧ Below w5.heap.size w5 wr)
      case atStart => exact ⟨0, by omega, rfl, 1, rfl, Lib.hid rfl, by omega, by omega, Below.refl _ _⟩
      case round =>
        obtain ⟨j, hj, rfl, st, rfl, HS, hs1, hs2, hx⟩ := hrel
        have hxr := hxxB.trans (hx.mono hxxB.size)
        by_cases hlt : j < ks.length
        · have hlt2 : j < lax.length := by have := hll.out; omega
          obtain ⟨g2, o2, k2, hA2, hg2, d0⟩ := int_at (h05.below hx) hlt
          obtain ⟨g1, o1, k1, u1, hA1, _, hg1, a0, _⟩ := ans_at (qax.below hx) hlt2
          injection hA2 with hA2 hA3 hA4
          clear hA3
          subst hA2 hA4
          injection hA1 with hA1 hA3 hA4
          clear hA3
          subst hA1 hA4
          have hltB : (j : Int) < (ks.length : Int) := by omega
          have hlt2B : (j : Int) < (lax.length : Int) := by omega
          have hj0 : (0 : Int) ≤ (j : Int) := by omega
          have HN : Hid (Fl.nextS st ks[j] = (ks.take (j + 1)).foldl Fl.nextS 1) := Lib.hid (by rw [Fl.steps_next ks hlt, HS.out])
          have HE : Hid (2 ≤ ks[j] → ks[j] ≤ 4 → (lax[j].err = 0 ↔ ks[j] = st + 1)) := Lib.hid (fun h1 h2 => by
            obtain ⟨a, ha1, ha2⟩ := Fl.steps_at ks hlt
            have hla : lax[j] = a := by
              rw [← HLA.out, List.getElem?_eq_getElem hlt2] at ha1
              injection ha1
            rw [hla, HS.out]
            exact ha2 h1 h2)
          generalize ks[j] = k at *
          generalize lax[j].err = re at *
          by_cases k1 : k < 2
          · have k1B : decide (k < 2) = true := decide_eq_true k1
            have HN2 : Hid (st = (ks.take (j + 1)).foldl Fl.nextS 1) := Lib.hid (by rw [← HN.out]; unfold Fl.nextS; rw [if_neg (by omega)])
            go_wp2_with fail
            go_roundg (gk - 1)
            case measure => omega
            case rel => exact ⟨j + 1, by omega, by go_num, st, rfl, HN2, hs1, hs2, hx⟩
          have k1B : decide (k < 2) = false := decide_eq_false k1
          by_cases k2 : 4 < k
          · have k2B : decide (4 < k) = true := decide_eq_true k2
            have HN2 : Hid (st = (ks.take (j + 1)).foldl Fl.nextS 1) := Lib.hid (by rw [← HN.out]; unfold Fl.nextS; rw [if_neg (by omega)])
            go_wp2_with fail
            go_roundg (gk - 1)
            case measure => omega
            case rel => exact ⟨j + 1, by omega, by go_num, st, rfl, HN2, hs1, hs2, hx⟩
          have k2B : decide (4 < k) = false := decide_eq_false k2
          have hE := HE.out (by omega) (by omega)
          by_cases k3 : k = st + 1
          · have k3B : (k == st + 1) = true := by rw [beq_iff_eq]; exact k3
            have hre : re = 0 := hE.2 k3
            have hreB : ((re : Int) == 0) = true := by rw [hre]; rfl
            have HN2 : Hid (st + 1 = (ks.take (j + 1)).foldl Fl.nextS 1) := Lib.hid (by rw [← HN.out]; unfold Fl.nextS; rw [if_pos ⟨by omega, by omega, k3⟩])
            have hs3 : st + 1 ≤ 100 := by omega
            have hs4 : 1 ≤ st + 1 := by omega
            have hs5 : st ≤ 3 := by omega
            clear hre hE k3 HN HE
            go_wp2_with fail
            go_roundg (gk - 1)
            case measure => omega
            case rel => exact ⟨j + 1, by omega, by go_num, st + 1, rfl, HN2, hs4, hs3, hx⟩
          · have k3B : (k == st + 1) = false := by rw [beq_eq_false_iff_ne]; exact k3
            have hre : re ≠ 0 := fun h => k3 (hE.1 h)
            have hreB : ((re : Int) == 0) = false := by rw [beq_eq_false_iff_ne]; omega
            have HN2 : Hid (st = (ks.take (j + 1)).foldl Fl.nextS 1) := Lib.hid (by rw [← HN.out]; unfold Fl.nextS; rw [if_neg (by omega)])
            clear hre hE k3 HN HE
            go_wp2_with fail
            go_roundg (gk - 1)
            case measure => omega
            case rel => exact ⟨j + 1, by omega, by go_num, st, rfl, HN2, hs1, hs2, hx⟩
        · have hltB : decide ((j : Int) < (ks.length : Int)) = false := decide_eq_false (by omega)
          go_wp2_with fail
          go_ret
          exact ⟨rfl, hxr⟩
end Go.Proofs.Ytnfaefgmekfloaa
