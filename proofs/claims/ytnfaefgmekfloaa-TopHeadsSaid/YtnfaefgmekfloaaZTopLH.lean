/-
  THE WALK of TopHeads. Conditions: what comes in is read.
-/
import Derived.Test.YtnfaefgmekfloaaZGv
import Derived.Test.YtnfaefgmekfloaaZTopD
import Derived.Test.YtnfaefgmekfloaaZTopO
namespace Go.Proofs.Ytnfaefgmekfloaa
open Go.RowKit Go.Lib

set_option maxRecDepth 100000 in
set_option maxHeartbeats 8000000 in
theorem topHeads_walk (w : World) (v0 : Value) (a : List Bs) (h0 : BList w (fun _ => True) v0 a) :
    Calls Try.prog 6 #[v0] w fun e w' => e = .returned (.bool true) ∧ Below w.heap.size w w' := by
  obtain ⟨A0, c0, hv0, hn0, hm0, _⟩ := h0.shape
  subst hv0
  unfold maxLen at hm0
  go_enter Try.func6, Try.ntmps6
  go_wp2_with fail
  with_reducible refine (aliveT w).mono ?_
  rintro e w1 ⟨rfl, hx1⟩
  have h01 := h0.below hx1
  go_wp2_with fail
  with_reducible refine (unlike_any w1 _ _ a h01).mono ?_
  rintro e w2 ⟨b, rfl, hub, hx12⟩
  have hx02 := hx1.trans (hx12.mono hx1.size)
  cases b with
  | false =>
    go_wp2_with fail
    go_ret
    exact ⟨rfl, hx02⟩
  | true =>
    have hu := hub rfl
    have hu30 := hu.2.2
    have hrd : RdL w2 (fun b => b < w2.heap.size) (.slice A0 a.length c0) a := (rdL_blist.2 (h01.below hx12)).weak fun b hb _ => hb
    go_wp2_with fail
    with_reducible refine (year_at w2 w2.heap.size (fun b => b < w2.heap.size) (.slice none 0 0) _ [] 0 a 3 3 rfl (OwnR.nil_ _ _ _ _ _) (Nat.le_refl _) (fun b hb => ⟨hb, by simp [Value.ownBlock]⟩) hrd (by decide) (by decide) (by decide) (by simp) hu30).mono ?_
    rintro e w3 ⟨v3, rfl, hG⟩
    have hx23 := hG.bel
    have hl3 : RdL w3 (fun b => b < w3.heap.size) v3 (Fl.yearL [] 0 a 3) := OwnR.rd (OwnR.weak hG.own (fun k hk _ => hk)) (fun k hk => (hG.own.lt k hk).2)
    obtain ⟨Al, cl, hv3, _, _⟩ := hl3.form
    have hll : (Fl.yearL [] 0 a 3).length = a.length + 3 := by simp [Fl.yearL]
    rw [hll] at hv3
    subst hv3
    have HLL := Lib.hid hll
    have hub' := Lib.hid hu
    clear hll hub hu hG
    go_wp2_with fail
    with_reducible refine (windows_at w3 1 1 rfl (by decide)).mono ?_
    rintro e w4 ⟨vw, rfl, hvw, hx34⟩
    have hvr : RdL w4 (fun _ => True) vw (Fl.windowsL 1) := OwnR.rd hvw (fun _ _ => trivial)
    obtain ⟨Aw, cw, hvw4, _, _⟩ := hvr.form
    subst hvw4
    have hl4 := hl3.below hx34
    have hx24 := hx23.trans (hx34.mono hx23.size)
    have hx04 := hx02.trans (hx24.mono hx02.size)
    clear hvw hl3
    obtain ⟨fx, lax, ax, bx, hpl⟩ : ∃ f_ la_ a_ b_, Fl.play (Fl.windowsL 1) (Fl.yearL [] 0 a 3) = (f_, la_, (a_, b_)) := ⟨_, _, _, _, rfl⟩
    have HP := Lib.hid (play_any w4 _ _ _ _ (Fl.windowsL 1) (Fl.yearL [] 0 a 3) hvr hl4)
    rw [hpl] at HP
    have HPLx := Lib.hid hpl
    clear hpl
    go_wp2_with fail
    refine HP.out.mono ?_
    rintro e w5 ⟨vs, vb, va, rfl, qsx, qbx, qax, hxpx⟩
    simp only at qsx qbx qax ⊢
    replace qsx := qsx.weak (F' := fun b => b < w5.heap.size) fun b hb _ => hb
    replace qbx := qbx.weak (F' := fun b => b < w5.heap.size) fun b hb _ => hb
    replace qax := qax.weak (F' := fun b => b < w5.heap.size) fun b hb _ => hb
    obtain ⟨Asx, csx, hvs, hlsx, hcsx⟩ := qsx.form
    obtain ⟨Abx, cbx, hvb, hlbx, hcbx⟩ := qbx.form
    obtain ⟨Aax, cax, hva, hlax, hcax⟩ := qax.form
    unfold maxLen at hcsx hcbx hcax
    subst hvs hvb hva
    clear HP
    go_upto_region 7 with (fail)
    have hxqx := ((Below.refl w5.heap.size w5).alloc (Nat.le_refl _) (.cells #[.slice Asx fx.sh.length csx, .slice Abx fx.book.length cbx] 34)).alloc (by simp) (.cells #[.int .i64 (ax : Int), .int .i64 (bx : Int)] 38)
    have hbFx : Blk ((w5.alloc (.cells #[.slice Asx fx.sh.length csx, .slice Abx fx.book.length cbx] 34)).alloc (.cells #[.int .i64 (ax : Int), .int .i64 (bx : Int)] 38)) w5.heap.size 34 #[.slice Asx fx.sh.length csx, .slice Abx fx.book.length cbx] := Blk.alloc (heap_alloc_new w5 _) _
    have hbWx : Blk ((w5.alloc (.cells #[.slice Asx fx.sh.length csx, .slice Abx fx.book.length cbx] 34)).alloc (.cells #[.int .i64 (ax : Int), .int .i64 (bx : Int)] 38)) (w5.heap.size + 1) 38 #[.int .i64 (ax : Int), .int .i64 (bx : Int)] := by
      have := heap_alloc_new (w5.alloc (.cells #[.slice Asx fx.sh.length csx, .slice Abx fx.book.length cbx] 34)) (.cells #[.int .i64 (ax : Int), .int .i64 (bx : Int)] 38)
      rw [World.size_alloc] at this
      exact this
    generalize ((w5.alloc (.cells #[.slice Asx fx.sh.length csx, .slice Abx fx.book.length cbx] 34)).alloc (.cells #[.int .i64 (ax : Int), .int .i64 (bx : Int)] 38)) = w6 at *
    have hxsx := hxpx.trans (hxqx.mono hxpx.size)
    have hxxB := hx04.trans (hxsx.mono hx04.size)
    replace qsx := qsx.below hxqx
    replace qbx := qbx.below hxqx
    replace qax := qax.below hxqx
    have hgwx : w4.heap.size ≤ w5.heap.size := hxpx.size
    clear hxpx hxqx
    generalize w5.heap.size = gx at *
    have hpl0 : Fl.play (Fl.windowsL 1) (Fl.yearL [] 0 a 3) = (Fl.shd1 a 4 [] (Shf.manOf a), Fl.ansT a ++ [Fl.ansH a, Fl.ansH a, Fl.ansH a], (0, 0)) := by
      unfold Fl.play
      rw [Fl.wrong_windows 1 (by decide), if_neg (by simp), if_neg (by rw [HLL.out]; omega), Fl.run_year3 hub'.out]
    have hpp := hpl0.symm.trans HPLx.out
    injection hpp with q1 q2
    injection q2 with q2 q3
    injection q3 with q3 q4
    have b0 : ((ax : Int) != 0) = false := by rw [← q3]; rfl
    have hlen : lax.length = a.length + 3 := by rw [← q2]; simp [Fl.ansT]
    have hdrop : Hid (lax.drop a.length = [Fl.ansH a, Fl.ansH a, Fl.ansH a]) := Lib.hid (by rw [← q2]; exact List.drop_left' (by simp [Fl.ansT]))
    have e0 : w6.cell? ⟨gx + 1, 0, none⟩ = some (.int .i64 (ax : Int)) := hbWx.cell 0
    have h06 := h0.below hxxB
    clear hpl0 q1 q2 q3 q4
    go_wp2_with fail
    with_reducible refine (Root_fine w6 _ _ a h06 hub'.out.fine).mono ?_
    rintro e w7 ⟨rv, rfl, hor, hx67⟩
    obtain ⟨Ar, cr, hrv, _, _⟩ := Own.shape hor
    have hrl : (Tr.root (a.map Tr.leafH)).length = 32 := Tr.length_rootL a
    rw [hrl] at hrv
    subst hrv
    have HRT : Hid (Tr.root (a.map Tr.leafH) = Tr.rootL a) := Lib.hid rfl
    rw [HRT.out] at hor
    clear hrl
    go_upto_region 8 with (fail)
    have hx78 := (Below.refl w7.heap.size w7).alloc (Nat.le_refl _) (.cells #[.int .i64 0, .int .i64 0] 38)
    have hbE : Blk (w7.alloc (.cells #[.int .i64 0, .int .i64 0] 38)) w7.heap.size 38 #[.int .i64 0, .int .i64 0] := heap_alloc_new w7 _
    have hor8 := OwnB.bytes (OwnB.alloc hor (.cells #[.int .i64 0, .int .i64 0] 38))
    have hx68 := hx67.trans (hx78.mono hx67.size)
    have hx08 := hxxB.trans (hx68.mono hxxB.size)
    have hbW8 := hbWx.below hx68 hbWx.lt
    have qa8 := qax.below hx68
    generalize w7.alloc (.cells #[.int .i64 0, .int .i64 0] 38) = w8 at *
    generalize w7.heap.size = ge at *
    have z0 : w8.cell? ⟨gx + 1, 0, none⟩ = some (.int .i64 (ax : Int)) := hbW8.cell 0
    have z1 : w8.cell? ⟨ge, 0, none⟩ = some (.int .i64 0) := hbE.cell 0
    obtain ⟨gA, oA, cA, -, hA1, -⟩ := ans_at qa8 (j := 0) (by omega)
    injection hA1 with hA1 hA2 hA3
    clear hA2
    subst hA1 hA3
    have hrest := qa8.rest (k := a.length) (by omega)
    have hsz : oA + a.length * Rp.sz Ans = oA + a.length * 5 := rfl
    rw [hsz] at hrest
    have hlenB : ((lax.length : Int) == ((a.length : Int) + 3)) = true := by rw [beq_iff_eq]; omega
    have hb1 : (a.length : Int) ≤ (lax.length : Int) := by omega
    have hb2 : (lax.length : Int) ≤ (cax : Int) := by omega
    have hb3 : ((cax : Int) == (a.length : Int)) = false := by rw [beq_eq_false_iff_ne]; omega
    have hb4 : ¬ cax = a.length := by omega
    have HRD := Lib.hid hrest
    have HLEN := Lib.hid hlen
    clear hbE hbW8 hbWx hbFx qsx qbx qax qa8 e0 hrest hsz hlen hor
    have HRD3 : RdL w8 (fun b => b < gx) (.slice (some ⟨gA, oA + a.length * 5, none⟩) 3 (cax - a.length)) (lax.drop a.length) := by
      have h := HRD.out
      rw [HLEN.out, Nat.add_sub_cancel_left] at h
      exact h
    have H3 := Lib.hid HRD3
    clear HRD3 HRD
    go_wp2_with fail
    generalize lax.drop a.length = l3 at *
    have hl3 : Hid (l3.length = 3) := Lib.hid (by rw [hdrop.out]; rfl)
    go_loopg [43] 3 (fun m i wr => ∃ j : Nat, j + m = 3 ∧ i = .int .i64 (j : Int) ∧ Below w8.heap.size w8 wr)
    case atStart => exact ⟨0, by omega, rfl, Below.refl _ _⟩
    case round =>
      obtain ⟨j, hj, rfl, hx⟩ := hrel
      have hxr := hx08.trans (hx.mono hx08.size)
      by_cases hlt : j < 3
      · have hlt3 : j < l3.length := by have := hl3.out; omega
        obtain ⟨g6, o6, c6, u6, hA1, _, hg6, y0, y1, y2, y3, y4, hu6⟩ := ans_at (H3.out.below hx) hlt3
        injection hA1 with hA1 hA2 hA3
        clear hA2
        injection hA1 with hA1
        injection hA1 with hA1 hA4 _
        subst hA1 hA4 hA3
        have hel : l3[j] = Fl.ansH a := by
          simp only [hdrop.out]
          match j, hlt with
          | 0, _ => rfl
          | 1, _ => rfl
          | 2, _ => rfl
        rw [hel] at y0 y3 hu6
        have y0' : wr.cell? ⟨gA, oA + a.length * 5 + j * 5, none⟩ = some (.int .i64 0) := y0
        have y3' : wr.cell? ⟨gA, oA + a.length * 5 + j * 5 + 3, none⟩ = some (.int .i64 (a.length : Int)) := y3
        have hu6' : Bytes wr (fun b => b < gx) u6 (Tr.rootL a) := hu6
        obtain ⟨U, cu, hU⟩ := hu6'.form
        have hrl : (Tr.rootL a).length = 32 := Tr.length_rootL a
        rw [hrl] at hU
        subst hU
        have hltB : (j : Int) < 3 := by omega
        have hj0 : (0 : Int) ≤ (j : Int) := by omega
        have HSM := Lib.hid (fun z hz => same_any z _ _ (.slice U 32 cu) (.slice Ar 32 cr) (Tr.rootL a) (Tr.rootL a) (hu6'.below (w' := z) hz) ((hor8.below hx).below hz))
        clear hel y0 y3 hu6 hu6' hrl
        generalize l3[j].sh = ash at *
        generalize l3[j].pl = apl at *
        go_upto_region 13 with (fail)
        have hxb := (Below.refl wr.heap.size wr).alloc (Nat.le_refl _) (.cells #[.int .i64 0, .int .i64 ash, .int .i64 apl, .int .i64 (a.length : Int), .slice U 32 cu] 53)
        have hbX : Blk (wr.alloc (.cells #[.int .i64 0, .int .i64 ash, .int .i64 apl, .int .i64 (a.length : Int), .slice U 32 cu] 53)) wr.heap.size 53 #[.int .i64 0, .int .i64 ash, .int .i64 apl, .int .i64 (a.length : Int), .slice U 32 cu] := heap_alloc_new wr _
        have HS2 := Lib.hid (HSM.out _ hxb)
        generalize wr.alloc (.cells #[.int .i64 0, .int .i64 ash, .int .i64 apl, .int .i64 (a.length : Int), .slice U 32 cu] 53) = w9 at *
        have x0 : w9.cell? ⟨wr.heap.size, 0, none⟩ = some (.int .i64 0) := hbX.cell 0
        have x3 : w9.cell? ⟨wr.heap.size, 3, none⟩ = some (.int .i64 (a.length : Int)) := hbX.cell 3
        have x4 : w9.cell? ⟨wr.heap.size, 4, none⟩ = some (.slice U 32 cu) := hbX.cell 4
        have hx9 := hx.trans (hxb.mono hx.size)
        have hnn : ((a.length : Int) != (a.length : Int)) = false := by simp
        rw [beq_self_eq_true] at HS2
        clear HSM
        go_wp2_with fail
        with_reducible refine HS2.out.mono ?_
        rintro e w10 ⟨rfl, n10, hw10⟩
        have hx10 := below_drewN hx9 n10
        rw [← hw10] at hx10
        clear hw10
        go_wp2_with fail
        go_roundg (gk - 1)
        case measure => omega
        case rel => exact ⟨j + 1, by omega, by go_num, hx10⟩
      · have hltB : decide ((j : Int) < 3) = false := decide_eq_false (by omega)
        go_wp2_with fail
        go_ret
        exact ⟨rfl, hxr⟩
end Go.Proofs.Ytnfaefgmekfloaa
